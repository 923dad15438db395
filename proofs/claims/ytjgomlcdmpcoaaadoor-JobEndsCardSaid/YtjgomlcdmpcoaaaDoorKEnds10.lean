/- Own texts of this session, packed by its program wip/pp/pack.py: lemmas and walks of functions. -/
import Derived.WideMake
import Derived.Test.YtjgomlcdmpcoaaaDoorKEnds8
import Derived.Test.YtjgomlcdmpcoaaaDoorKEnds9
namespace Go.Proofs.YtjgomlcdmpcoaaaDoor.H
open Go.RowKit Go.Proofs.YtjgomlcdmpcoaaaDoorW.PrintWords Go.Proofs.YtjgomlcdmpcoaaaDoorW.PrintLast Go.Proofs.YtjgomlcdmpcoaaaDoorW.PrintMore
open Go.Proofs.YtjgomlcdmpcoaaaDoor.D Go.Proofs.YtjgomlcdmpcoaaaDoor
set_option linter.unusedVariables false
set_option linter.unusedSimpArgs false
def xShown (n : ByteArray) (x : S98) : Bool := decide (x.f1.toList = n.toList) && decide (x.f4 = 4)
def dropI (t : S70) (k : Int) : S70 × Int × Int := if k < 0 then (t, 0, 5) else (turnI t k.toNat 3, (rd_T98 t.f3 k).f0, 0)
def dropC (t : S70) (kind k : Int) : S70 × Int × Int :=
  if k < 0 then (t, 0, 5)
  else if kind = 10 then (if (rd_T75 t.f2 k).f4 = 0 then (turnN t k.toNat 1, (rd_T75 t.f2 k).f0, 0) else (t, 0, 6))
  else if k = 0 then (t, 0, 8)
  else if kind = 11 then (if (rd_T75 t.f2 k).f4 = 4 then (turnN t k.toNat 3, (rd_T75 t.f2 k).f0, 0) else (t, 0, 12))
  else if usedB (rd_T75 t.f2 k).f0 t.f3 = true ∨ (rd_T75 t.f2 k).f4 ≠ 0 then (t, 0, 18)
  else (turnC t k.toNat 3, (rd_T75 t.f2 k).f0, 0)
def dropP (t : S70) (s : S45) : S70 × Int × Int := if s.f0 = 7 then dropI t (idxL (xShown s.f2) t.f3 0) else dropC t s.f0 (idxL (cShown s.f2) t.f2 0)
theorem skip_shutD {c : Bool} {A B : Prop} (h : c = false) (hB : B) : if c = true then A else B := by
  rw [h, if_neg (by simp)]
  exact hB
theorem rused_calls (t : S70) (h3 : t.f3.length ≤ 4) (hn : ∀ x ∈ t.f3, x.f2.length ≤ 8) (n : Int) (A2 : Option Addr) (c2 : Nat) (A3 : Option Addr) (c3 : Nat) (w : World) (l2 : t.f2.length ≤ c2) (g2 : k75.C w A2 t.f2.length t.f2) (l3 : t.f3.length ≤ c3) (g3 : k98.C w A3 t.f3.length t.f3) :
    Calls Tryd.prog 68 #[.agg #[.int .i64 t.f0, .string t.f1, .slice A2 t.f2.length c2, .slice A3 t.f3.length c3, .int .i64 t.f4], .int .i64 n] w fun e w' => e = .returned (.bool (usedB n t.f3)) ∧ Below w.heap.size w w' := by
  have h := used_run (t := t) n (by omega) (fun x hx => by have := hn x hx; omega) t.f3.length 1001 0 (by omega) (by omega)
  rw [List.drop_zero] at h
  exact falseworkref18_used.calls 1001 t.f0 t.f1 A2 c2 t.f2 A3 c3 t.f3 t.f4 n _ w g2 l2 g3 l3 h
set_option maxRecDepth 100000 in
set_option maxHeartbeats 4000000 in
theorem drop_upd : Upd 64 dropP := by
  intro w0 W g n cap ts i oki t cv iv s cs hB hL ht hs hok
  obtain ⟨A3, c3, A4, c4, A5, c5, A6, c6, A9, c9, rfl, -⟩ := k45_open hs
  obtain ⟨m2, m3, m4, m5⟩ := tableB_lens ht
  obtain ⟨Ai, ci, hiv⟩ := Kd.R_slice hL.inds
  obtain ⟨Ac, cc, hcv⟩ := Kd.R_slice hL.cols
  subst hiv hcv
  obtain ⟨BX, hBX⟩ : ∃ b : Array Value, b = #[.int .i64 s.f0, .string s.f1, .string s.f2, .slice A3 s.f3.length c3, .slice A4 s.f4.length c4, .slice A5 s.f5.length c5, .slice A6 s.f6.length c6, .bool s.f7, .int .i64 s.f8, .slice A9 s.f9.length c9] := ⟨_, rfl⟩
  have HU := Aside0.mk ((⟨hL, Tch.refl _ _, hB.size⟩ : UpdSt w0 W W g n cap ts i oki t (.slice Ac t.f2.length cc) (.slice Ai t.f3.length ci)).step (below_alloc (Below.refl _ _) (.cells #[.int .i64 s.f0, .string s.f1, .string s.f2, .slice A3 s.f3.length c3, .slice A4 s.f4.length c4, .slice A5 s.f5.length c5, .slice A6 s.f6.length c6, .bool s.f7, .int .i64 s.f8, .slice A9 s.f9.length c9] 45)))
  have HX0 := Aside0.mk (heap_alloc_new W (.cells #[.int .i64 s.f0, .string s.f1, .string s.f2, .slice A3 s.f3.length c3, .slice A4 s.f4.length c4, .slice A5 s.f5.length c5, .slice A6 s.f6.length c6, .bool s.f7, .int .i64 s.f8, .slice A9 s.f9.length c9] 45))
  have HI := Lib.hid (show dropP t s = _ by unfold dropP; exact rfl)
  obtain ⟨T, id, er, hTR⟩ : ∃ T id er, dropP t s = (T, id, er) := ⟨_, _, _, rfl⟩
  rw [hTR]
  rw [hTR] at HI
  have HN8 := Lib.hid (fun x hx => (m5 x hx).2)
  clear hB hL hs hok hTR ht m5
  by_cases hk7 : s.f0 = 7
  · have HI2 := Lib.hid (HI.out.trans (if_pos hk7))
    have hq7 : (s.f0 == 7) = true := by simpa using hk7
    clear HI hk7
    go_enter Tryd.func64, Tryd.ntmps64
    go_wp2_with fail
    have HX1 := Aside0.mk (show (W.alloc (.cells #[.int .i64 s.f0, .string s.f1, .string s.f2, .slice A3 s.f3.length c3, .slice A4 s.f4.length c4, .slice A5 s.f5.length c5, .slice A6 s.f6.length c6, .bool s.f7, .int .i64 s.f8, .slice A9 s.f9.length c9] 45)).heap[W.heap.size]? = some (.cells BX 45 (0, 0)) by rw [hBX]; exact HX0.out)
    clear HX0
    go_loopg [6] t.f3.length (fun gg u6 wr => ∃ k : Nat, k ≤ t.f3.length ∧ t.f3.length - k ≤ gg ∧ u6 = .int .i64 k ∧ Aside0 (UpdSt w0 W wr g n cap ts i oki t (.slice Ac t.f2.length cc) (.slice Ai t.f3.length ci)) ∧ Aside0 (wr.heap[W.heap.size]? = some (.cells BX 45 (0, 0))) ∧ Aside0 (idxL (xShown s.f2) t.f3 0 = idxL (xShown s.f2) (t.f3.drop k) k))
    case atStart => exact ⟨0, Nat.zero_le _, by omega, rfl, HU, HX1, ⟨by rw [List.drop_zero]⟩⟩
    case round =>
      clear HU HX1
      obtain ⟨k, hk, hgk, rfl, HU, HX, HA⟩ := hrel
      have a3 := HU.out.lent.cell 3 rfl
      have x2 := blk_cell (j := 2) (v := .string s.f2) HX.out (by rw [hBX]; rfl)
      by_cases hlt : k < t.f3.length
      · have hltz : (k : Int) < (t.f3.length : Int) := by omega
        have hk0 : (0 : Int) ≤ (k : Int) := by omega
        obtain ⟨gi, ci', hgi, -⟩ := Kd.R_form HU.out.lent.inds (by omega)
        obtain rfl : Ai = some ⟨gi, 0, none⟩ := by injection hgi
        obtain ⟨cz, hcl, hM, hcc, hfr⟩ := Kd.R_elem HU.out.lent.inds z98 (k : Int) (by omega) (by omega)
        rw [show t.f3.getD (k : Int).toNat z98 = t.f3[k] by simp [List.getD, hlt]] at hM
        obtain ⟨v2, rfl, -⟩ := k98_openM hM
        have e1 : wr.cell? ⟨gi, k * 5 + 1, none⟩ = some (.string t.f3[k].f1) := hcc 1 _ rfl
        have e4 : wr.cell? ⟨gi, k * 5 + 4, none⟩ = some (.int .i64 t.f3[k].f4) := hcc 4 _ rfl
        have hdr : t.f3.drop k = t.f3[k] :: t.f3.drop (k + 1) := List.drop_eq_getElem_cons hlt
        have hA := HA.out
        rw [hdr, idxL_cons] at hA
        clear hdr hcl hM hcc hfr HA hgi
        have hs3 : (xShown s.f2 t.f3[k] = true ∧ (t.f3[k].f1.toList == s.f2.toList) = true ∧ (t.f3[k].f4 == 4) = true) ∨ (xShown s.f2 t.f3[k] = false ∧ (t.f3[k].f1.toList == s.f2.toList) = false) ∨ (xShown s.f2 t.f3[k] = false ∧ (t.f3[k].f1.toList == s.f2.toList) = true ∧ (t.f3[k].f4 == 4) = false) := by
          unfold xShown
          by_cases h1 : t.f3[k].f1.toList = s.f2.toList
          · by_cases h2 : t.f3[k].f4 = 4
            · exact .inl ⟨by simp [h1, h2], by simpa using h1, by simpa using h2⟩
            · exact .inr (.inr ⟨by simp [h2], by simpa using h1, by simpa using h2⟩)
          · exact .inr (.inl ⟨by simp [h1], by simpa using h1⟩)
        rcases hs3 with ⟨hxs, hq1, hq4⟩ | ⟨hxs, hq1⟩ | ⟨hxs, hq1, hq4⟩
        · rw [hxs, if_pos rfl] at hA
          have HR := Lib.hid (show (T, id, er) = (turnI t k 3, t.f3[k].f0, 0) by rw [HI2.out, hA]; unfold dropI; rw [if_neg (by omega), Int.toNat_natCast, rd98 _ _ hlt])
          have hTI := Lib.hid (show turnI t k 3 = ⟨t.f0, t.f1, t.f2, t.f3.set k ⟨t.f3[k].f0, t.f3[k].f1, t.f3[k].f2, t.f3[k].f3, 3⟩, t.f4⟩ by unfold turnI; rw [if_neg (by decide), rd98 _ _ hlt])
          clear hA hxs HI2
          go_wp2_with fail
          go_quiet (fail)
          rename_i nq
          have hbq : Below wr.heap.size wr (wr.drewN nq) := pw_below_drewN (Below.refl _ _) _
          have HUq := Aside0.mk (HU.out.step hbq)
          clear a3 x2 e1 e4 HU
          generalize wr.drewN nq = wq at HUq ⊢
          have b3 := HUq.out.lent.cell 3 rfl
          obtain ⟨cz, hcl, hM, hcc, hfr⟩ := Kd.R_elem HUq.out.lent.inds z98 (k : Int) (by omega) (by omega)
          rw [show t.f3.getD (k : Int).toNat z98 = t.f3[k] by simp [List.getD, hlt]] at hM
          obtain ⟨v2, rfl, -⟩ := k98_openM hM
          have e0 : wq.cell? ⟨gi, k * 5, none⟩ = some (.int .i64 t.f3[k].f0) := hcc 0 _ rfl
          have e4 : wq.cell? ⟨gi, k * 5 + 4, none⟩ = some (.int .i64 t.f3[k].f4) := hcc 4 _ rfl
          have f4 : wq.frozen? ⟨gi, k * 5 + 4, none⟩ = false := hfr 4
          have HF := Aside0.mk (HUq.out.putI k hlt 3 rfl)
          have hne : g ≠ gi := fun e => HUq.out.lent.oki_ne gi (HUq.out.lent.inds.1 gi (by simp [Value.ownBlock])) e.symm
          have hne' : gi ≠ g := Ne.symm hne
          clear hcl hM hcc hfr
          go_wp2
          go_ret2
          obtain ⟨rfl, rfl, rfl⟩ : T = turnI t k 3 ∧ id = t.f3[k].f0 ∧ er = 0 := by have := HR.out; simp only [Prod.mk.injEq] at this; exact this
          rw [hTI.out]
          exact ⟨rfl, HF.out.done⟩
        all_goals
          rw [hxs, if_neg (by simp)] at hA
          have HA := Aside0.mk hA
          clear hA hxs
          go_wp2_with fail
          go_quiet (fail)
          go_wp2
          go_roundg (t.f3.length - (k + 1))
          case measure => omega
          case rel => exact ⟨k + 1, by omega, by omega, by go_num, ⟨HU.out.step (pw_below_drewN (Below.refl _ _) _)⟩, ⟨blk_below HX.out (pw_below_drewN (Below.refl _ _) _)⟩, HA⟩
      · have hltz : ¬ (k : Int) < (t.f3.length : Int) := by omega
        have hA := HA.out
        rw [List.drop_eq_nil_of_le (by omega)] at hA
        have HR := Lib.hid (show (T, id, er) = (t, 0, 5) by rw [HI2.out, hA]; rfl)
        clear hA HA HI2
        go_wp2
        go_ret2
        obtain ⟨rfl, rfl, rfl⟩ : T = t ∧ id = 0 ∧ er = 5 := by have := HR.out; simp only [Prod.mk.injEq] at this; exact this
        exact ⟨rfl, HU.out.done⟩
  · have HI2 := Lib.hid (HI.out.trans (if_neg hk7))
    have hq7 : (s.f0 == 7) = false := by simpa using hk7
    obtain ⟨-, lcc, hC0⟩ := Kd.R_reads' HU.out.lent.cols
    have HCC := Aside0.mk hC0
    have a2 := HU.out.lent.cell 2 rfl
    have hgl : g < W.heap.size + 1 := by have := World.block_lt_of_cell? _ _ a2; simpa using this
    obtain ⟨W0, hW0⟩ : ∃ W0, W0 = W.alloc (.cells #[.int .i64 s.f0, .string s.f1, .string s.f2, .slice A3 s.f3.length c3, .slice A4 s.f4.length c4, .slice A5 s.f5.length c5, .slice A6 s.f6.length c6, .bool s.f7, .int .i64 s.f8, .slice A9 s.f9.length c9] 45) := ⟨_, rfl⟩
    have HQ := Lib.hid (fun W' (hb : Below (W.alloc (.cells #[.int .i64 s.f0, .string s.f1, .string s.f2, .slice A3 s.f3.length c3, .slice A4 s.f4.length c4, .slice A5 s.f5.length c5, .slice A6 s.f6.length c6, .bool s.f7, .int .i64 s.f8, .slice A9 s.f9.length c9] 45)).heap.size (W.alloc (.cells #[.int .i64 s.f0, .string s.f1, .string s.f2, .slice A3 s.f3.length c3, .slice A4 s.f4.length c4, .slice A5 s.f5.length c5, .slice A6 s.f6.length c6, .bool s.f7, .int .i64 s.f8, .slice A9 s.f9.length c9] 45)) W') => rshown_calls t.f2 (by omega) s.f2 Ac cc W' (by omega) (Kd.C_below HCC.out hb))
    obtain ⟨ix, hix⟩ : ∃ ix, idxL (cShown s.f2) t.f2 0 = ix := ⟨_, rfl⟩
    have hia := idxL_at (cShown s.f2) t.f2
    rw [hix] at HQ HI2 hia
    clear HI hk7 hC0 hix
    go_enter Tryd.func64, Tryd.ntmps64
    go_wp2_with fail
    go_quiet ((go_at_call 117; exact Calls.quiet_of (HQ.out _ (pw_below_drewN (Below.refl _ _) _))))
    rename_i nq
    have hbq : Below (W.alloc (.cells #[.int .i64 s.f0, .string s.f1, .string s.f2, .slice A3 s.f3.length c3, .slice A4 s.f4.length c4, .slice A5 s.f5.length c5, .slice A6 s.f6.length c6, .bool s.f7, .int .i64 s.f8, .slice A9 s.f9.length c9] 45)).heap.size (W.alloc (.cells #[.int .i64 s.f0, .string s.f1, .string s.f2, .slice A3 s.f3.length c3, .slice A4 s.f4.length c4, .slice A5 s.f5.length c5, .slice A6 s.f6.length c6, .bool s.f7, .int .i64 s.f8, .slice A9 s.f9.length c9] 45)) ((W.alloc (.cells #[.int .i64 s.f0, .string s.f1, .string s.f2, .slice A3 s.f3.length c3, .slice A4 s.f4.length c4, .slice A5 s.f5.length c5, .slice A6 s.f6.length c6, .bool s.f7, .int .i64 s.f8, .slice A9 s.f9.length c9] 45)).drewN nq) := pw_below_drewN (Below.refl _ _) _
    have HUq := Aside0.mk (HU.out.step hbq)
    have HXq := Aside0.mk (blk_below HX0.out hbq)
    clear a2 HU HX0 HQ hW0 hgl HCC hbq
    generalize (W.alloc (.cells #[.int .i64 s.f0, .string s.f1, .string s.f2, .slice A3 s.f3.length c3, .slice A4 s.f4.length c4, .slice A5 s.f5.length c5, .slice A6 s.f6.length c6, .bool s.f7, .int .i64 s.f8, .slice A9 s.f9.length c9] 45)).drewN nq = wq at HUq HXq ⊢
    rcases hia with rfl | ⟨k, hlt, rfl, -⟩
    · have HR := Lib.hid (show (T, id, er) = (t, 0, 5) by rw [HI2.out]; rfl)
      clear HI2
      go_wp2
      go_ret2
      obtain ⟨rfl, rfl, rfl⟩ : T = t ∧ id = 0 ∧ er = 5 := by have := HR.out; simp only [Prod.mk.injEq] at this; exact this
      exact ⟨rfl, HUq.out.done⟩
    have HI3 := Lib.hid (HI2.out.trans (show dropC t s.f0 (k : Int) = _ by unfold dropC; rw [if_neg (by omega), rd75 _ _ hlt, Int.toNat_natCast]))
    have hltz : (k : Int) < (t.f2.length : Int) := by omega
    have hk0 : (0 : Int) ≤ (k : Int) := by omega
    obtain ⟨gi, ci', hgi, -⟩ := Kd.R_form HUq.out.lent.cols (by omega)
    obtain rfl : Ac = some ⟨gi, 0, none⟩ := by injection hgi
    obtain ⟨cz, hcl, hM, hcc, hfr⟩ := Kd.R_elem HUq.out.lent.cols z75 (k : Int) (by omega) (by omega)
    rw [show t.f2.getD (k : Int).toNat z75 = t.f2[k] by simp [List.getD, hlt]] at hM
    obtain rfl := k75_openM hM
    have e0 : wq.cell? ⟨gi, k * 9, none⟩ = some (.int .i64 t.f2[k].f0) := hcc 0 _ rfl
    have e3 : wq.cell? ⟨gi, k * 9 + 3, none⟩ = some (.int .i64 t.f2[k].f3) := hcc 3 _ rfl
    have e4 : wq.cell? ⟨gi, k * 9 + 4, none⟩ = some (.int .i64 t.f2[k].f4) := hcc 4 _ rfl
    have f3 : wq.frozen? ⟨gi, k * 9 + 3, none⟩ = false := hfr 3
    have f4 : wq.frozen? ⟨gi, k * 9 + 4, none⟩ = false := hfr 4
    have a2 := HUq.out.lent.cell 2 rfl
    have x0 := blk_cell (j := 0) (v := .int .i64 s.f0) HXq.out rfl
    obtain ⟨q10, hq10⟩ : ∃ q, (s.f0 == 10) = q := ⟨_, rfl⟩
    obtain ⟨q11, hq11⟩ : ∃ q, (s.f0 == 11) = q := ⟨_, rfl⟩
    clear hcl hM hcc hfr HI2 hgi
    by_cases h10 : s.f0 = 10
    · obtain rfl : q10 = true := by rw [← hq10]; simpa using h10
      by_cases h4 : t.f2[k].f4 = 0
      · have hn0 : (t.f2[k].f4 != 0) = false := by simpa using h4
        have HR := Lib.hid (show (T, id, er) = (turnN t k 1, t.f2[k].f0, 0) by rw [HI3.out]; rw [if_pos h10, if_pos h4])
        have hTI := Lib.hid (show turnN t k 1 = ⟨t.f0, t.f1, t.f2.set k ⟨t.f2[k].f0, t.f2[k].f1, t.f2[k].f2, t.f2[k].f3, 1, t.f2[k].f5⟩, t.f3, t.f4⟩ by unfold turnN; rw [rd75 _ _ hlt])
        clear HI3
        have HF := Aside0.mk (HUq.out.putN k hlt 1 rfl)
        go_wp2_with fail
        clear a2 e0 e3 e4 f3 f4 x0
        generalize wq.setCell ⟨gi, k * 9 + 4, none⟩ (.int .i64 1) = wf at HF ⊢
        obtain ⟨cz, hcl, hM, hcc, hfr⟩ := Kd.R_elem HF.out.lent.cols z75 (k : Int) (by omega) (by omega)
        rw [show (t.f2.set k ⟨t.f2[k].f0, t.f2[k].f1, t.f2[k].f2, t.f2[k].f3, 1, t.f2[k].f5⟩).getD (k : Int).toNat z75 = ⟨t.f2[k].f0, t.f2[k].f1, t.f2[k].f2, t.f2[k].f3, 1, t.f2[k].f5⟩ by simp [List.getD, hlt]] at hM
        obtain rfl := k75_openM hM
        have e0 : wf.cell? ⟨gi, k * 9, none⟩ = some (.int .i64 t.f2[k].f0) := hcc 0 _ rfl
        clear hcl hM hcc hfr
        go_wp2
        go_ret2
        obtain ⟨rfl, rfl, rfl⟩ : T = turnN t k 1 ∧ id = t.f2[k].f0 ∧ er = 0 := by have := HR.out; simp only [Prod.mk.injEq] at this; exact this
        rw [hTI.out]
        exact ⟨rfl, HF.out.done⟩
      · have hn0 : (t.f2[k].f4 != 0) = true := by simpa using h4
        have HR := Lib.hid (show (T, id, er) = (t, 0, 6) by rw [HI3.out]; rw [if_pos h10, if_neg h4])
        clear HI3
        go_wp2
        go_ret2
        obtain ⟨rfl, rfl, rfl⟩ : T = t ∧ id = 0 ∧ er = 6 := by have := HR.out; simp only [Prod.mk.injEq] at this; exact this
        exact ⟨rfl, HUq.out.done⟩
    obtain rfl : q10 = false := by rw [← hq10]; simpa using h10
    by_cases hkz : k = 0
    · have hz0 : ((k : Int) == 0) = true := by simpa using hkz
      have HR := Lib.hid (show (T, id, er) = (t, 0, 8) by rw [HI3.out]; rw [if_neg h10, if_pos (by omega)])
      clear HI3
      go_wp2
      go_ret2
      obtain ⟨rfl, rfl, rfl⟩ : T = t ∧ id = 0 ∧ er = 8 := by have := HR.out; simp only [Prod.mk.injEq] at this; exact this
      exact ⟨rfl, HUq.out.done⟩
    have hz0 : ((k : Int) == 0) = false := by simpa using hkz
    by_cases h11 : s.f0 = 11
    · obtain rfl : q11 = true := by rw [← hq11]; simpa using h11
      by_cases h4 : t.f2[k].f4 = 4
      · have hn4 : (t.f2[k].f4 != 4) = false := by simpa using h4
        have HR := Lib.hid (show (T, id, er) = (turnN t k 3, t.f2[k].f0, 0) by rw [HI3.out]; rw [if_neg h10, if_neg (by omega), if_pos h11, if_pos h4])
        have hTI := Lib.hid (show turnN t k 3 = ⟨t.f0, t.f1, t.f2.set k ⟨t.f2[k].f0, t.f2[k].f1, t.f2[k].f2, t.f2[k].f3, 3, t.f2[k].f5⟩, t.f3, t.f4⟩ by unfold turnN; rw [rd75 _ _ hlt])
        clear HI3
        have HF := Aside0.mk (HUq.out.putN k hlt 3 rfl)
        go_wp2_with fail
        clear a2 e0 e3 e4 f3 f4 x0
        generalize wq.setCell ⟨gi, k * 9 + 4, none⟩ (.int .i64 3) = wf at HF ⊢
        obtain ⟨cz, hcl, hM, hcc, hfr⟩ := Kd.R_elem HF.out.lent.cols z75 (k : Int) (by omega) (by omega)
        rw [show (t.f2.set k ⟨t.f2[k].f0, t.f2[k].f1, t.f2[k].f2, t.f2[k].f3, 3, t.f2[k].f5⟩).getD (k : Int).toNat z75 = ⟨t.f2[k].f0, t.f2[k].f1, t.f2[k].f2, t.f2[k].f3, 3, t.f2[k].f5⟩ by simp [List.getD, hlt]] at hM
        obtain rfl := k75_openM hM
        have e0 : wf.cell? ⟨gi, k * 9, none⟩ = some (.int .i64 t.f2[k].f0) := hcc 0 _ rfl
        clear hcl hM hcc hfr
        go_wp2
        go_ret2
        obtain ⟨rfl, rfl, rfl⟩ : T = turnN t k 3 ∧ id = t.f2[k].f0 ∧ er = 0 := by have := HR.out; simp only [Prod.mk.injEq] at this; exact this
        rw [hTI.out]
        exact ⟨rfl, HF.out.done⟩
      · have hn4 : (t.f2[k].f4 != 4) = true := by simpa using h4
        have HR := Lib.hid (show (T, id, er) = (t, 0, 12) by rw [HI3.out]; rw [if_neg h10, if_neg (by omega), if_pos h11, if_neg h4])
        clear HI3
        go_wp2
        go_ret2
        obtain ⟨rfl, rfl, rfl⟩ : T = t ∧ id = 0 ∧ er = 12 := by have := HR.out; simp only [Prod.mk.injEq] at this; exact this
        exact ⟨rfl, HUq.out.done⟩
    obtain rfl : q11 = false := by rw [← hq11]; simpa using h11
    obtain ⟨-, lci, hCi⟩ := Kd.R_reads' HUq.out.lent.inds
    obtain ⟨-, lcc', hCc⟩ := Kd.R_reads' HUq.out.lent.cols
    have HCi := Aside0.mk hCi
    have HCc := Aside0.mk hCc
    have HQ := Lib.hid (fun W' (hb : Below wq.heap.size wq W') => rused_calls t m4 HN8.out t.f2[k].f0 (some ⟨gi, 0, none⟩) cc Ai ci W' lcc' (Kd.C_below HCc.out hb) lci (Kd.C_below HCi.out hb))
    obtain ⟨us, hus⟩ : ∃ us, usedB t.f2[k].f0 t.f3 = us := ⟨_, rfl⟩
    rw [hus] at HQ
    have b0 := HUq.out.lent.cell 0 rfl
    have b1 := HUq.out.lent.cell 1 rfl
    have b3 := HUq.out.lent.cell 3 rfl
    have b4 := HUq.out.lent.cell 4 rfl
    rw [Nat.add_zero] at b0
    clear hCi hCc
    cases us with
    | true =>
      have HR := Lib.hid (show (T, id, er) = (t, 0, 18) by rw [HI3.out, if_neg h10, if_neg (by omega), if_neg h11, if_pos (.inl hus)])
      clear HI3
      go_wp2_with fail
      first | go_region_law (first | (refine skip_shutD (by rfl) ?_) | (go_simp; go_at_call 68; refine (HQ.out _ (below_drew (Below.refl _ _))).mono ?_; rintro e w5 ⟨rfl, hb5⟩)) | fail
      all_goals
        have HF := Aside0.mk (HUq.out.step (below_then (below_drew (Below.refl _ _)) (Nat.le_refl _) hb5))
        go_wp2
        go_ret2
        obtain ⟨rfl, rfl, rfl⟩ : T = t ∧ id = 0 ∧ er = 18 := by have := HR.out; simp only [Prod.mk.injEq] at this; exact this
        exact ⟨rfl, HF.out.done⟩
    | false =>
      by_cases h4 : t.f2[k].f4 = 0
      · have hn0 : (t.f2[k].f4 != 0) = false := by simpa using h4
        go_wp2_with fail
        first | go_region_law (first | (refine skip_shutD (by rfl) ?_) | (go_simp; go_at_call 68; refine (HQ.out _ (below_drew (Below.refl _ _))).mono ?_; rintro e w5 ⟨rfl, hb5⟩; have e4' := pw_cell_below hb5 e4)) | fail
        all_goals
          have HR := Lib.hid (show (T, id, er) = (turnC t k 3, t.f2[k].f0, 0) by rw [HI3.out]; rw [if_neg h10, if_neg (by omega), if_neg h11, if_neg (by rw [hus]; simp [h4])])
          have hTI := Lib.hid (show turnC t k 3 = ⟨t.f0, t.f1, t.f2.set k ⟨t.f2[k].f0, t.f2[k].f1, t.f2[k].f2, 3, t.f2[k].f4, t.f2[k].f5⟩, t.f3, t.f4⟩ by unfold turnC; rw [if_neg (by decide), rd75 _ _ hlt])
          clear HI3
          have HU5 := Aside0.mk (HUq.out.step (below_then (below_drew (Below.refl _ _)) (Nat.le_refl _) hb5))
          clear e0 e3 e4 f3 f4 a2 b0 b1 b3 b4
          obtain ⟨cz, hcl, hM, hcc, hfr⟩ := Kd.R_elem HU5.out.lent.cols z75 (k : Int) (by omega) (by omega)
          rw [show t.f2.getD (k : Int).toNat z75 = t.f2[k] by simp [List.getD, hlt]] at hM
          obtain rfl := k75_openM hM
          have e0 : w5.cell? ⟨gi, k * 9, none⟩ = some (.int .i64 t.f2[k].f0) := hcc 0 _ rfl
          have e3 : w5.cell? ⟨gi, k * 9 + 3, none⟩ = some (.int .i64 t.f2[k].f3) := hcc 3 _ rfl
          have f3 : w5.frozen? ⟨gi, k * 9 + 3, none⟩ = false := hfr 3
          clear hcl hM hcc hfr
          have HF := Aside0.mk (HU5.out.putS k hlt 3 rfl)
          go_wp2_with fail
          clear e0 e3 f3 x0 e4'
          generalize w5.setCell ⟨gi, k * 9 + 3, none⟩ (.int .i64 3) = wf at HF ⊢
          obtain ⟨cz, hcl, hM, hcc, hfr⟩ := Kd.R_elem HF.out.lent.cols z75 (k : Int) (by omega) (by omega)
          rw [show (t.f2.set k ⟨t.f2[k].f0, t.f2[k].f1, t.f2[k].f2, 3, t.f2[k].f4, t.f2[k].f5⟩).getD (k : Int).toNat z75 = ⟨t.f2[k].f0, t.f2[k].f1, t.f2[k].f2, 3, t.f2[k].f4, t.f2[k].f5⟩ by simp [List.getD, hlt]] at hM
          obtain rfl := k75_openM hM
          have e0 : wf.cell? ⟨gi, k * 9, none⟩ = some (.int .i64 t.f2[k].f0) := hcc 0 _ rfl
          clear hcl hM hcc hfr
          go_wp2
          go_ret2
          obtain ⟨rfl, rfl, rfl⟩ : T = turnC t k 3 ∧ id = t.f2[k].f0 ∧ er = 0 := by have := HR.out; simp only [Prod.mk.injEq] at this; exact this
          rw [hTI.out]
          exact ⟨rfl, HF.out.done⟩
      · have hn0 : (t.f2[k].f4 != 0) = true := by simpa using h4
        have HR := Lib.hid (show (T, id, er) = (t, 0, 18) by rw [HI3.out, if_neg h10, if_neg (by omega), if_neg h11, if_pos (.inr h4)])
        clear HI3
        go_wp2_with fail
        first | go_region_law (first | (refine skip_shutD (by rfl) ?_) | (go_simp; go_at_call 68; refine (HQ.out _ (below_drew (Below.refl _ _))).mono ?_; rintro e w5 ⟨rfl, hb5⟩; have e4' := pw_cell_below hb5 e4)) | fail
        all_goals
          have HF := Aside0.mk (HUq.out.step (below_then (below_drew (Below.refl _ _)) (Nat.le_refl _) hb5))
          go_wp2
          go_ret2
          obtain ⟨rfl, rfl, rfl⟩ : T = t ∧ id = 0 ∧ er = 18 := by have := HR.out; simp only [Prod.mk.injEq] at this; exact this
          exact ⟨rfl, HF.out.done⟩
end Go.Proofs.YtjgomlcdmpcoaaaDoor.H
namespace Go.Proofs.YtjgomlcdmpcoaaaDoor.H
open Go.RowKit Go.Proofs.YtjgomlcdmpcoaaaDoorW.PrintWords Go.Proofs.YtjgomlcdmpcoaaaDoorW.PrintLast Go.Proofs.YtjgomlcdmpcoaaaDoorW.PrintMore
open Go.Proofs.YtjgomlcdmpcoaaaDoor.D Go.Proofs.YtjgomlcdmpcoaaaDoor
set_option linter.unusedVariables false
set_option linter.unusedSimpArgs false
theorem turn_at (kind : Int) (hk : 6 ≤ kind ∧ kind ≤ 11) (elem by_ : Int) (hby : by_ = 1 ∨ by_ = -1) : TurnAt kind elem by_ := by
  by_cases h1 : kind = 6 ∨ kind = 7
  · exact turnX_at kind h1 elem by_ hby
  by_cases h2 : kind = 8 ∨ kind = 9
  · exact turnC_at kind h2 elem by_ hby
  exact turnN_at kind (by omega) elem by_ hby
theorem elemI_nil {t : S70} {kind elem : Int} (h : 0 ≤ elemI t kind elem) : 6 ≤ kind ∧ kind ≤ 11 := by
  unfold elemI at h
  by_cases h1 : kind = 6 ∨ kind = 7
  · rcases h1 with rfl | rfl <;> decide
  by_cases h2 : 8 ≤ kind ∧ kind ≤ 11
  · omega
  rw [if_neg h1, if_neg h2] at h
  omega
theorem elemI_le {t : S70} (ht : tableB t = true) (kind elem : Int) : elemI t kind elem ≤ 4 := by
  have hs : ∀ s, stateB s = true → s ≤ 4 := fun s h => by
    unfold stateB at h
    simp only [Bool.and_eq_true, decide_eq_true_eq] at h
    exact h.2
  unfold tableB at ht
  simp only [Bool.and_eq_true, decide_eq_true_eq] at ht
  obtain ⟨_, _, _, _, _, _, h7, h8, _⟩ := ht
  unfold elemI
  split
  · rcases idxL_at (xId elem) t.f3 with h | ⟨k, hk, h, -⟩
    · rw [h, if_neg (by omega)]; omega
    · rw [h, if_pos (by omega), rd98 _ _ hk]
      have := tindsB_all _ _ _ h8 _ (List.getElem_mem hk)
      unfold indexB at this
      simp only [Bool.and_eq_true, decide_eq_true_eq] at this
      exact hs _ this.2.2.2.1
  split
  · rcases idxL_at (cId elem) t.f2 with h | ⟨k, hk, h, -⟩
    · rw [h, if_neg (by omega)]; omega
    · rw [h, if_pos (by omega), rd75 _ _ hk]
      have := tcolsB_all _ _ _ h7 _ (List.getElem_mem hk)
      unfold columnB at this
      simp only [Bool.and_eq_true, decide_eq_true_eq] at this
      split
      · exact hs _ this.2.2.2.1
      · exact hs _ this.2.2.2.2.1
  · omega
set_option maxRecDepth 100000 in
set_option maxHeartbeats 32000000 in
theorem step_calls (v : Int) (ts : List S70) (nx : Int) (kind table elem : Int) (up : Bool) (hn : ts.length < 1000) (hw : ∀ t ∈ ts, ∀ c ∈ t.f2, ValWf c.f5)
    (A : Option Addr) (c : Nat) (w : World) (hc : ts.length ≤ c) (g2 : k70.C w A ts.length ts) :
    Calls Tryd.prog 32 #[.agg #[.int .i64 v, .slice A ts.length c, .int .i64 nx], .int .i64 kind, .int .i64 table, .int .i64 elem, .bool up] w (TellsE w (stepP v ts nx kind table elem up)) := by
  have HC := Aside0.mk g2
  obtain ⟨bx, hbx⟩ : ∃ b : Array Value, b = #[.int .i64 v, .slice A ts.length c, .int .i64 nx] := ⟨_, rfl⟩
  have HX := Aside0.mk (Bxt.new w bx)
  have HM := Lib.hid (fun W (hb : Below w.heap.size w W) => rmay_calls v ts nx hw A c W hc (Kd.C_below g2 hb))
  have HQ := Lib.hid (fun W (hb : Below w.heap.size w W) => rstate_calls v ts nx hn hw kind table elem A c W hc (Kd.C_below g2 hb))
  have HI := Lib.hid (stepP_eq v ts nx kind table elem up)
  obtain ⟨R, hR⟩ : ∃ R, stepP v ts nx kind table elem up = R := ⟨_, rfl⟩
  rw [hR]
  rw [hR] at HI
  rw [hbx] at HX
  have HIX := idxL_at (tId table) ts
  have HSTT := Lib.hid (show stateI v ts nx kind table elem = _ by unfold stateI; exact rfl)
  obtain ⟨st, hst⟩ : ∃ st, stateI v ts nx kind table elem = st := ⟨_, rfl⟩
  obtain ⟨ix, hix⟩ : ∃ ix, idxL (tId table) ts 0 = ix := ⟨_, rfl⟩
  rw [hst] at HQ HI HSTT
  rw [hix] at HIX HI HSTT
  have HP := Lib.hid hix
  clear g2 hR hw hst hix
  cases hsch : schB v ts nx with
  | false =>
    have HR := Lib.hid (show R = noTold 3 by rw [HI.out, if_pos hsch])
    rw [hsch] at HM
    clear hsch HI HIX
    go_enter Tryd.func32, Tryd.ntmps32
    go_wp2_with fail
    refine (HM.out _ HX.out.below).mono ?_
    rintro e w1 ⟨rfl, hb1⟩
    have HX1 := Aside0.mk (HX.out.step hb1)
    have f0 := blk_frozen HX1.out.b2 0
    have f1 := blk_frozen HX1.out.b2 1
    have f2 := blk_frozen HX1.out.b2 2
    have c0 := blk_cell (j := 0) (v := .int .i64 0) HX1.out.b2 rfl
    have c1 := blk_cell (j := 1) (v := .slice none 0 0) HX1.out.b2 rfl
    have c2 := blk_cell (j := 2) (v := .int .i64 0) HX1.out.b2 rfl
    clear hb1
    go_wp2
    refine bodyPost_ret (v := .tuple #[.agg #[.int .i64 0, .slice none 0 0, .int .i64 0], .int .i64 3]) (by simp [results, Tryd.results32, go_sem, c0, c1, c2]) rfl (tellse_no HR.out (HX1.out.out _ _ _))
  | true =>
    rw [hsch] at HM
    have HSTT := Lib.hid (HSTT.out.trans (show _ = (if 0 ≤ ix then elemI (rd_T70 ts ix) kind elem else -1) by rw [if_pos hsch]))
    have HI2 := Lib.hid (HI.out.trans (if_neg (by rw [hsch]; simp)))
    have HB := Lib.hid hsch
    clear hsch HI
    go_enter Tryd.func32, Tryd.ntmps32
    go_wp2_with fail
    refine (HM.out _ HX.out.below).mono ?_
    rintro e w1 ⟨rfl, hb1⟩
    have HX1 := Aside0.mk (HX.out.step hb1)
    have x0 := blk_cell (j := 0) (v := .int .i64 v) HX1.out.b0 rfl
    clear hb1 HX HM
    by_cases hv : 1099511627775 ≤ v
    · have hd : decide (1099511627775 ≤ v) = true := decide_eq_true hv
      have HR := Lib.hid (show R = noTold 4 by rw [HI2.out, if_pos hv])
      have f0 := blk_frozen HX1.out.b2 0
      have f1 := blk_frozen HX1.out.b2 1
      have f2 := blk_frozen HX1.out.b2 2
      have c0 := blk_cell (j := 0) (v := .int .i64 0) HX1.out.b2 rfl
      have c1 := blk_cell (j := 1) (v := .slice none 0 0) HX1.out.b2 rfl
      have c2 := blk_cell (j := 2) (v := .int .i64 0) HX1.out.b2 rfl
      clear hv HI2 HIX
      go_wp2
      refine bodyPost_ret (v := .tuple #[.agg #[.int .i64 0, .slice none 0 0, .int .i64 0], .int .i64 4]) (by simp [results, Tryd.results32, go_sem, c0, c1, c2]) rfl (tellse_no HR.out (HX1.out.out _ _ _))
    have hd : decide (1099511627775 ≤ v) = false := decide_eq_false hv
    have HI3 := Lib.hid (HI2.out.trans (if_neg hv))
    have x1 := blk_cell (j := 1) (v := .slice A ts.length c) HX1.out.b0 rfl
    have x2 := blk_cell (j := 2) (v := .int .i64 nx) HX1.out.b0 rfl
    have HV := Lib.hid hv
    clear HI2 hv
    go_wp2_with fail
    refine (HQ.out _ HX1.out.below).mono ?_
    rintro e w2 ⟨rfl, hb2⟩
    have HX2 := Aside0.mk (HX1.out.step hb2)
    clear hb2 x0 x1 x2 hd HQ
    by_cases hs0 : st < 0
    · have hd : decide (st < 0) = true := decide_eq_true hs0
      have HR := Lib.hid (show R = noTold 5 by rw [HI3.out, if_pos hs0])
      clear HX1
      have HX1 := HX2
      have f0 := blk_frozen HX1.out.b2 0
      have f1 := blk_frozen HX1.out.b2 1
      have f2 := blk_frozen HX1.out.b2 2
      have c0 := blk_cell (j := 0) (v := .int .i64 0) HX1.out.b2 rfl
      have c1 := blk_cell (j := 1) (v := .slice none 0 0) HX1.out.b2 rfl
      have c2 := blk_cell (j := 2) (v := .int .i64 0) HX1.out.b2 rfl
      clear hs0 HI3 HIX
      go_wp2
      refine bodyPost_ret (v := .tuple #[.agg #[.int .i64 0, .slice none 0 0, .int .i64 0], .int .i64 5]) (by simp [results, Tryd.results32, go_sem, c0, c1, c2]) rfl (tellse_no HR.out (HX1.out.out _ _ _))
    have hd : decide (st < 0) = false := decide_eq_false hs0
    have HI4 := Lib.hid (HI3.out.trans (if_neg hs0))
    have hs0' : 0 ≤ st := by omega
    clear HI3
    obtain ⟨k, hk, rfl⟩ : ∃ k : Nat, k < ts.length ∧ ix = (k : Int) := by
      rcases HIX with rfl | ⟨k, hk, h, -⟩
      · have := HSTT.out; rw [if_neg (by omega)] at this; omega
      · exact ⟨k, hk, h⟩
    have hel : elemI ts[k] kind elem = st := by have := HSTT.out; rw [if_pos (by omega), rd70 _ _ hk] at this; exact this.symm
    have HTB := Lib.hid (schB_tab HB.out _ (List.getElem_mem hk))
    have hkd := elemI_nil (show 0 ≤ elemI ts[k] kind elem by rw [hel]; exact hs0')
    have hs5 : st ≤ 4 := by rw [← hel]; exact elemI_le HTB.out kind elem
    obtain ⟨bb, hbb⟩ : ∃ bb, (if up = true then (1 : Int) else -1) = bb := ⟨_, rfl⟩
    have hbb1 : bb = 1 ∨ bb = -1 := by rw [← hbb]; cases up <;> simp
    obtain ⟨T', hT'⟩ : ∃ T', turnP ts[k] kind elem bb = T' := ⟨_, rfl⟩
    have HTA := Lib.hid (fun (W : World) (g cap : Nat) (oki : Nat → Prop) (cv iv : Value) (hB : Below w.heap.size w W) (hL : Lent W w.heap.size g ts.length cap ts k oki ts[k] cv iv) => by
      have h := turn_at kind hkd elem bb hbb1 w W g ts.length cap ts k oki ts[k] cv iv hB hL HTB.out (by rw [hel]; exact hs0') (by rw [hel]; exact hs5)
      rw [hT'] at h
      exact h)
    have HI4 := Lib.hid (HI4.out.trans (show _ = (if (up = true ∧ st = 4) ∨ (up = false ∧ st = 0) then noTold 12
      else if 8 ≤ kind ∧ idxL (cId elem) ts[k].f2 0 = 0 then noTold 8
      else if up = false ∧ st = 1 ∧ (kind = 8 ∨ kind = 9) ∧ usedB elem ts[k].f3 = true then noTold 18
      else (⟨v + 1, ts.set k T', nx, 0, 0, 0⟩ : Told)) by rw [rd70 _ _ hk, hbb, hT', Int.toNat_natCast]))
    have hk6 : kind = 6 ∨ kind = 7 ∨ kind = 8 ∨ kind = 9 ∨ kind = 10 ∨ kind = 11 := by omega
    by_cases hr12 : (up = true ∧ st = 4) ∨ (up = false ∧ st = 0)
    · have hr12' : (up = true ∧ (st == 4) = true) ∨ (up = false ∧ (st == 0) = true) := by
        rcases hr12 with ⟨h1, h2⟩ | ⟨h1, h2⟩
        · exact .inl ⟨h1, by simpa using h2⟩
        · exact .inr ⟨h1, by simpa using h2⟩
      clear HTA hel hkd HSTT HIX hT' hbb hbb1
      rcases hr12' with ⟨rfl, hq⟩ | ⟨rfl, hq⟩
      all_goals
        rcases hk6 with rfl | rfl | rfl | rfl | rfl | rfl
        all_goals
          have HR := Lib.hid (show R = noTold 12 by rw [HI4.out, if_pos hr12])
          clear HX1
          have HX1 := HX2
          have f0 := blk_frozen HX1.out.b2 0
          have f1 := blk_frozen HX1.out.b2 1
          have f2 := blk_frozen HX1.out.b2 2
          have c0 := blk_cell (j := 0) (v := .int .i64 0) HX1.out.b2 rfl
          have c1 := blk_cell (j := 1) (v := .slice none 0 0) HX1.out.b2 rfl
          have c2 := blk_cell (j := 2) (v := .int .i64 0) HX1.out.b2 rfl
          clear HI4 hr12
          go_wp2
          refine bodyPost_ret (v := .tuple #[.agg #[.int .i64 0, .slice none 0 0, .int .i64 0], .int .i64 12]) (by simp [results, Tryd.results32, go_sem, c0, c1, c2]) rfl (tellse_no HR.out (HX1.out.out _ _ _))
    have HI5 := Lib.hid (HI4.out.trans (if_neg hr12))
    have hup : (up = true ∧ bb = 1 ∧ (st == 4) = false) ∨ (up = false ∧ bb = -1 ∧ (st == 0) = false) := by
      cases up
      · exact .inr ⟨rfl, by rw [← hbb]; rfl, by have : st ≠ 0 := fun e => hr12 (.inr ⟨rfl, e⟩); simpa using this⟩
      · exact .inl ⟨rfl, by rw [← hbb]; rfl, by have : st ≠ 4 := fun e => hr12 (.inl ⟨rfl, e⟩); simpa using this⟩
    obtain ⟨t, ht⟩ : ∃ t, ts[k] = t := ⟨_, rfl⟩
    rw [ht] at HTA HI5 HTB
    have HTE := Lib.hid ht
    have hk0 : (0 : Int) ≤ (k : Int) := by omega
    have hkl : (k : Int) < (ts.length : Int) := by omega
    have hv1 : v < 1099511627775 := by have := HV.out; omega
    have hv0 : 0 ≤ v := by have := HB.out; unfold schB at this; simp only [Bool.and_eq_true, decide_eq_true_eq] at this; exact this.1
    have hgrp : ((kind = 6 ∨ kind = 7)) ∨ ((kind = 10 ∨ kind = 11) ∨ ((kind = 8 ∨ kind = 9) ∧ (up = true ∨ (up = false ∧ (st == 1) = false)))) ∨ ((kind = 8 ∨ kind = 9) ∧ up = false ∧ (st == 1) = true) := by
      by_cases h1 : st = 1
      · cases up
        · rcases hk6 with h | h | h | h | h | h <;> simp [h, h1]
        · rcases hk6 with h | h | h | h | h | h <;> simp [h, h1]
      · cases up
        · rcases hk6 with h | h | h | h | h | h <;> simp [h, h1]
        · rcases hk6 with h | h | h | h | h | h <;> simp [h, h1]
    clear hr12 HI4 HIX HSTT hel hs0 HX1 hk6 hkd ht hT' hbb hbb1
    rcases hgrp with hg | hg | hg
    · have HR6 := Lib.hid ((HI5.out.trans (if_neg (by omega))).trans (if_neg (by rintro ⟨-, -, h, -⟩; omega)))
      clear HI5
      have hup1 : (up = true ∧ bb = 1 ∧ (st == 4) = false ∧ True) ∨ (up = false ∧ bb = -1 ∧ (st == 0) = false ∧ (st == 1) = true) ∨ (up = false ∧ bb = -1 ∧ (st == 0) = false ∧ (st == 1) = false) := by
        rcases hup with ⟨h1, h2, h3⟩ | ⟨h1, h2, h3⟩
        · exact .inl ⟨h1, h2, h3, trivial⟩
        · cases hq1 : (st == 1)
          · exact .inr (.inr ⟨h1, h2, h3, rfl⟩)
          · exact .inr (.inl ⟨h1, h2, h3, rfl⟩)
      clear hup
      rcases hup1 with ⟨rfl, rfl, hq, hq1⟩ | ⟨rfl, rfl, hq, hq1⟩ | ⟨rfl, rfl, hq, hq1⟩
      all_goals
        rcases hg with rfl | rfl
        all_goals
          have x0 := blk_cell (j := 0) (v := .int .i64 v) HX2.out.b0 rfl
          have x1 := blk_cell (j := 1) (v := .slice A ts.length c) HX2.out.b0 rfl
          have x2 := blk_cell (j := 2) (v := .int .i64 nx) HX2.out.b0 rfl
          go_wp2_with fail
          refine (copy_calls v ts nx (schB_small HB.out) A c w2 hc (Kd.C_below HC.out HX2.out.below)).mono ?_
          rintro e w3 ⟨u, rfl, hS, hb3⟩
          have hS' := Kd.S_lower hS HX2.out.below.size
          obtain ⟨g, cap, rfl, -⟩ := Kd.S_form hS' (by omega)
          obtain ⟨Y, hY⟩ : ∃ Y : Obj, Y = .cells #[.int .i64 v, .slice (some ⟨g, 0, none⟩) ts.length cap, .int .i64 nx] 28 := ⟨_, rfl⟩
          have hby := below_alloc (Below.refl _ w3) Y
          have hX3 := HX2.out.step hb3
          have HX3 := Aside0.mk (hX3.step hby)
          have HS3 := Aside0.mk (Kd.S_alloc hS' Y)
          have HY := Aside0.mk (heap_alloc_new w3 Y)
          have hq3 : w.heap.size + 1 < w3.heap.size := lt_of_block hX3.b2
          clear hS hS' hb3 x0 x1 x2 HX2 hby hX3
          rw [hY] at HX3 HS3 HY
          go_wp2_with fail
          rw [← hY]
          rw [← hY] at HX3 HS3 HY
          obtain ⟨m, hm⟩ : ∃ m, m = w3.heap.size := ⟨_, rfl⟩
          rw [← hm] at HY hq3 ⊢
          have HM3 := Lib.hid hm
          generalize w3.alloc Y = w4 at HX3 HS3 HY ⊢
          clear hm
          have HYY := HY
          rw [hY] at HYY
          have HYB := Aside0.mk (show w4.heap[m]? = some (.cells #[.int .i64 v, .slice (some ⟨g, 0, none⟩) ts.length cap, .int .i64 nx] 28 (0, 0)) from HYY.out)
          clear HYY HY hY
          have HP3 := Lib.hid (fun W (hb : Below w.heap.size w W) => rbyid_calls v ts nx table hn A c W hc (Kd.C_below HC.out hb))
          rw [HP.out] at HP3
          have x0 := blk_cell (j := 0) (v := .int .i64 v) HX3.out.b0 rfl
          have x1 := blk_cell (j := 1) (v := .slice A ts.length c) HX3.out.b0 rfl
          have x2 := blk_cell (j := 2) (v := .int .i64 nx) HX3.out.b0 rfl
          have y1 := blk_cell (j := 1) (v := .slice (some ⟨g, 0, none⟩) ts.length cap) HYB.out rfl
          have HH := Aside0.mk (HeldY.new (w := w) (W0 := w4) x0 x1 x2 y1)
          clear x0 x1 x2 y1
          go_region_held3 (fun W => Below w4.heap.size w4 W ∧ W.cell? ⟨w.heap.size, 0, none⟩ = some (.int .i64 v) ∧ W.cell? ⟨w.heap.size, 1, none⟩ = some (.slice A ts.length c) ∧ W.cell? ⟨w.heap.size, 2, none⟩ = some (.int .i64 nx) ∧ W.cell? ⟨m, 1, none⟩ = some (.slice (some ⟨g, 0, none⟩) ts.length cap))
            (first | exact HH.out | exact HeldY.step (m := m) ⟨by assumption, by assumption, by assumption, by assumption, by assumption⟩ hbq)
            (first | (go_at_call 65; go_split_ands; refine (HP3.out _ (below_then HX3.out.below HX3.out.below.size (by assumption))).mono ?_; rintro e w5 ⟨rfl, hbq⟩))
          rename_i hHeld
          obtain ⟨hb5, -, -, -, -⟩ := hHeld
          have HX5 := Aside0.mk (HX3.out.step hb5)
          have HY5 := Aside0.mk (blk_below HYB.out hb5)
          obtain ⟨oki, cv, iv, hL⟩ := lend (Kd.S_below HS3.out hb5) hk
          rw [HTE.out] at hL
          have HL5 := Aside0.mk hL
          clear hb5 HS3 HX3 HYB HH HP3 hL
          have HUU := Lib.hid (HTA.out _ g cap oki cv iv HX5.out.below HL5.out)
          go_wp2_with fail
          refine HUU.out.mono ?_
          rintro e w6 ⟨rfl, hS6, hT6⟩
          have HX6 := Aside0.mk (HX5.out.tch hT6)
          have hY6 := hT6.box HY5.out
          have y0 := blk_cell (j := 0) (v := .int .i64 v) hY6 rfl
          have yf := blk_frozen hY6 0
          have hX7 := HX6.out.far (j := 0) hq3 (.int .i64 (v + 1))
          have hY7 := blk_put hY6 0 (.int .i64 (v + 1)) rfl
          have hS7 := Kd.S_set hS6 hY6 (by decide) 0 (.int .i64 (v + 1))
          have y1 := blk_cell (j := 1) (v := .slice (some ⟨g, 0, none⟩) ts.length cap) hY6 rfl
          have y2 := blk_cell (j := 2) (v := .int .i64 nx) hY6 rfl
          have f0 := blk_frozen HX6.out.b2 0
          have f1 := blk_frozen HX6.out.b2 1
          have f2 := blk_frozen HX6.out.b2 2
          have c0 := blk_cell (j := 0) (v := .int .i64 0) HX6.out.b2 rfl
          have c1 := blk_cell (j := 1) (v := .slice none 0 0) HX6.out.b2 rfl
          have c2 := blk_cell (j := 2) (v := .int .i64 0) HX6.out.b2 rfl
          have n1 : m ≠ w.heap.size + 1 := by omega
          have n2 : w.heap.size + 1 ≠ m := by omega
          have hlen : (ts.set k (T')).length = ts.length := List.length_set
          rw [← hlen] at hS7
          have HFIN := Aside0.mk (And.intro (S_set3 (a := .int .i64 (v + 1)) (b := .slice (some ⟨g, 0, none⟩) ts.length cap) (c := .int .i64 nx) hS7 hX7.b2) (hX7.out (.int .i64 (v + 1)) (.slice (some ⟨g, 0, none⟩) ts.length cap) (.int .i64 nx)))
          rw [hlen] at HFIN
          clear hS6 hT6 HUU hY6 hX7 hY7 hS7 hlen
          go_wp2
          refine bodyPost_ret (v := .tuple #[.agg #[.int .i64 (v + 1), .slice (some ⟨g, 0, none⟩) ts.length cap, .int .i64 nx], .int .i64 0]) (by simp [results, Tryd.results32, go_sem, c0, c1, c2, y0, y1, y2]) rfl ?_
          have hfin := tellse_ok (w := w) (R := R) (v := v + 1) (nx := nx) (ts := ts.set k (T')) (by rw [HR6.out]) (Kd.S_R HFIN.out.1) HFIN.out.2
          exact hfin
    · have hkk : 8 ≤ kind ∧ kind ≤ 11 := by omega
      have hk4 : kind = 8 ∨ kind = 9 ∨ kind = 10 ∨ kind = 11 := by omega
      have hall : (kind = 8 ∧ up = true ∧ bb = 1 ∧ (st == 4) = false ∧ True) ∨ (kind = 9 ∧ up = true ∧ bb = 1 ∧ (st == 4) = false ∧ True) ∨ (kind = 10 ∧ up = true ∧ bb = 1 ∧ (st == 4) = false ∧ True) ∨ (kind = 11 ∧ up = true ∧ bb = 1 ∧ (st == 4) = false ∧ True) ∨ (kind = 8 ∧ up = false ∧ bb = -1 ∧ (st == 0) = false ∧ (st == 1) = false) ∨ (kind = 9 ∧ up = false ∧ bb = -1 ∧ (st == 0) = false ∧ (st == 1) = false) ∨ (kind = 10 ∧ up = false ∧ bb = -1 ∧ (st == 0) = false ∧ (st == 1) = false) ∨ (kind = 11 ∧ up = false ∧ bb = -1 ∧ (st == 0) = false ∧ (st == 1) = false) ∨ (kind = 10 ∧ up = false ∧ bb = -1 ∧ (st == 0) = false ∧ (st == 1) = true) ∨ (kind = 11 ∧ up = false ∧ bb = -1 ∧ (st == 0) = false ∧ (st == 1) = true) := by
        cases hq1 : (st == 1) <;> rcases hup with ⟨h1, h2, h3⟩ | ⟨h1, h2, h3⟩ <;> rcases hk4 with h | h | h | h <;> first | (simp [h, h1, h2, h3]; done) | (simp [h, h1, hq1] at hg)
      by_cases hcz : idxL (cId elem) t.f2 0 = 0
      · have HI8 := Lib.hid (HI5.out.trans (if_pos ⟨hkk.1, hcz⟩))
        clear HI5 HTA hall hg hkk
        rcases hup with ⟨rfl, rfl, hq⟩ | ⟨rfl, rfl, hq⟩
        all_goals
          rcases hk4 with rfl | rfl | rfl | rfl
          all_goals
            have x0 := blk_cell (j := 0) (v := .int .i64 v) HX2.out.b0 rfl
            have x1 := blk_cell (j := 1) (v := .slice A ts.length c) HX2.out.b0 rfl
            have x2 := blk_cell (j := 2) (v := .int .i64 nx) HX2.out.b0 rfl
            go_wp2_with fail
            refine (copy_calls v ts nx (schB_small HB.out) A c w2 hc (Kd.C_below HC.out HX2.out.below)).mono ?_
            rintro e w3 ⟨u, rfl, hS, hb3⟩
            have hS' := Kd.S_lower hS HX2.out.below.size
            obtain ⟨g, cap, rfl, -⟩ := Kd.S_form hS' (by omega)
            obtain ⟨Y, hY⟩ : ∃ Y : Obj, Y = .cells #[.int .i64 v, .slice (some ⟨g, 0, none⟩) ts.length cap, .int .i64 nx] 28 := ⟨_, rfl⟩
            have hby := below_alloc (Below.refl _ w3) Y
            have hX3 := HX2.out.step hb3
            have HX3 := Aside0.mk (hX3.step hby)
            have HS3 := Aside0.mk (Kd.S_alloc hS' Y)
            have HY := Aside0.mk (heap_alloc_new w3 Y)
            have hq3 : w.heap.size + 1 < w3.heap.size := lt_of_block hX3.b2
            clear hS hS' hb3 x0 x1 x2 HX2 hby hX3
            rw [hY] at HX3 HS3 HY
            go_wp2_with fail
            rw [← hY]
            rw [← hY] at HX3 HS3 HY
            obtain ⟨m, hm⟩ : ∃ m, m = w3.heap.size := ⟨_, rfl⟩
            rw [← hm] at HY hq3 ⊢
            have HM3 := Lib.hid hm
            generalize w3.alloc Y = w4 at HX3 HS3 HY ⊢
            clear hm
            have HYY := HY
            rw [hY] at HYY
            have HYB := Aside0.mk (show w4.heap[m]? = some (.cells #[.int .i64 v, .slice (some ⟨g, 0, none⟩) ts.length cap, .int .i64 nx] 28 (0, 0)) from HYY.out)
            clear HYY HY hY
            have HP3 := Lib.hid (fun W (hb : Below w.heap.size w W) => rbyid_calls v ts nx table hn A c W hc (Kd.C_below HC.out hb))
            rw [HP.out] at HP3
            have x0 := blk_cell (j := 0) (v := .int .i64 v) HX3.out.b0 rfl
            have x1 := blk_cell (j := 1) (v := .slice A ts.length c) HX3.out.b0 rfl
            have x2 := blk_cell (j := 2) (v := .int .i64 nx) HX3.out.b0 rfl
            have y1 := blk_cell (j := 1) (v := .slice (some ⟨g, 0, none⟩) ts.length cap) HYB.out rfl
            have HH := Aside0.mk (HeldY.new (w := w) (W0 := w4) x0 x1 x2 y1)
            clear x0 x1 x2 y1
            go_region_held3 (fun W => Below w4.heap.size w4 W ∧ W.cell? ⟨w.heap.size, 0, none⟩ = some (.int .i64 v) ∧ W.cell? ⟨w.heap.size, 1, none⟩ = some (.slice A ts.length c) ∧ W.cell? ⟨w.heap.size, 2, none⟩ = some (.int .i64 nx) ∧ W.cell? ⟨m, 1, none⟩ = some (.slice (some ⟨g, 0, none⟩) ts.length cap))
              (first | exact HH.out | exact HeldY.step (m := m) ⟨by assumption, by assumption, by assumption, by assumption, by assumption⟩ hbq)
              (first | (go_at_call 65; go_split_ands; refine (HP3.out _ (below_then HX3.out.below HX3.out.below.size (by assumption))).mono ?_; rintro e w5 ⟨rfl, hbq⟩))
            rename_i hHeld
            obtain ⟨hb5, -, -, -, -⟩ := hHeld
            have HX5 := Aside0.mk (HX3.out.step hb5)
            have HY5 := Aside0.mk (blk_below HYB.out hb5)
            obtain ⟨oki, cv, iv, hL⟩ := lend (Kd.S_below HS3.out hb5) hk
            rw [HTE.out] at hL
            have HL5 := Aside0.mk hL
            clear hb5 HS3 HX3 HYB HH HP3 hL
            obtain ⟨Ac, cc, hcv, lcc, hCc⟩ := Kd.R_reads HL5.out.cols
            obtain ⟨Ai, ci, hiv, lci, hCi⟩ := Kd.R_reads HL5.out.inds
            subst hcv hiv
            have a0 := HL5.out.cell 0 rfl
            have a1 := HL5.out.cell 1 rfl
            have a2 := HL5.out.cell 2 rfl
            have a3 := HL5.out.cell 3 rfl
            have a4 := HL5.out.cell 4 rfl
            rw [Nat.add_zero] at a0
            have HCI := Lib.hid (rcolumn_calls t (by have := (tableB_lens HTB.out).2.1; omega) elem Ac cc Ai ci w5 lcc hCc lci hCi)
            rw [hcz] at HCI
            go_wp2_with fail
            refine HCI.out.mono ?_
            rintro e w5b ⟨rfl, hb5b⟩
            have HX5b := Aside0.mk (HX5.out.step hb5b)
            have HY5b := Aside0.mk (blk_below HY5.out hb5b)
            have HL5b := Aside0.mk (HL5.out.step hb5b)
            clear a0 a1 a2 a3 a4 HCI hb5b hCc hCi
            have HR := Lib.hid (show R = noTold 8 by exact HI8.out)
            have HX1 := HX5b
            have f0 := blk_frozen HX1.out.b2 0
            have f1 := blk_frozen HX1.out.b2 1
            have f2 := blk_frozen HX1.out.b2 2
            have c0 := blk_cell (j := 0) (v := .int .i64 0) HX1.out.b2 rfl
            have c1 := blk_cell (j := 1) (v := .slice none 0 0) HX1.out.b2 rfl
            have c2 := blk_cell (j := 2) (v := .int .i64 0) HX1.out.b2 rfl
            clear HI8
            go_wp2
            refine bodyPost_ret (v := .tuple #[.agg #[.int .i64 0, .slice none 0 0, .int .i64 0], .int .i64 8]) (by simp [results, Tryd.results32, go_sem, c0, c1, c2]) rfl (tellse_no HR.out (HX1.out.out _ _ _))
      · have HR6 := Lib.hid ((HI5.out.trans (if_neg (fun h => hcz h.2))).trans (if_neg (by
          rintro ⟨h1, h2, h3, -⟩
          rcases hg with h | ⟨-, h | ⟨-, h⟩⟩
          · omega
          · rw [h] at h1; cases h1
          · rw [h2] at h; cases h)))
        obtain ⟨ci_, hci⟩ : ∃ x, idxL (cId elem) t.f2 0 = x := ⟨_, rfl⟩
        rw [hci] at hcz
        have hcq : (ci_ == 0) = false := by simpa using hcz
        clear HI5 hg hkk hk4 hup
        rcases hall with ⟨rfl, rfl, rfl, hq, hq1⟩ | ⟨rfl, rfl, rfl, hq, hq1⟩ | ⟨rfl, rfl, rfl, hq, hq1⟩ | ⟨rfl, rfl, rfl, hq, hq1⟩ | ⟨rfl, rfl, rfl, hq, hq1⟩ | ⟨rfl, rfl, rfl, hq, hq1⟩ | ⟨rfl, rfl, rfl, hq, hq1⟩ | ⟨rfl, rfl, rfl, hq, hq1⟩ | ⟨rfl, rfl, rfl, hq, hq1⟩ | ⟨rfl, rfl, rfl, hq, hq1⟩
        all_goals
          skip
          all_goals
            have x0 := blk_cell (j := 0) (v := .int .i64 v) HX2.out.b0 rfl
            have x1 := blk_cell (j := 1) (v := .slice A ts.length c) HX2.out.b0 rfl
            have x2 := blk_cell (j := 2) (v := .int .i64 nx) HX2.out.b0 rfl
            go_wp2_with fail
            refine (copy_calls v ts nx (schB_small HB.out) A c w2 hc (Kd.C_below HC.out HX2.out.below)).mono ?_
            rintro e w3 ⟨u, rfl, hS, hb3⟩
            have hS' := Kd.S_lower hS HX2.out.below.size
            obtain ⟨g, cap, rfl, -⟩ := Kd.S_form hS' (by omega)
            obtain ⟨Y, hY⟩ : ∃ Y : Obj, Y = .cells #[.int .i64 v, .slice (some ⟨g, 0, none⟩) ts.length cap, .int .i64 nx] 28 := ⟨_, rfl⟩
            have hby := below_alloc (Below.refl _ w3) Y
            have hX3 := HX2.out.step hb3
            have HX3 := Aside0.mk (hX3.step hby)
            have HS3 := Aside0.mk (Kd.S_alloc hS' Y)
            have HY := Aside0.mk (heap_alloc_new w3 Y)
            have hq3 : w.heap.size + 1 < w3.heap.size := lt_of_block hX3.b2
            clear hS hS' hb3 x0 x1 x2 HX2 hby hX3
            rw [hY] at HX3 HS3 HY
            go_wp2_with fail
            rw [← hY]
            rw [← hY] at HX3 HS3 HY
            obtain ⟨m, hm⟩ : ∃ m, m = w3.heap.size := ⟨_, rfl⟩
            rw [← hm] at HY hq3 ⊢
            have HM3 := Lib.hid hm
            generalize w3.alloc Y = w4 at HX3 HS3 HY ⊢
            clear hm
            have HYY := HY
            rw [hY] at HYY
            have HYB := Aside0.mk (show w4.heap[m]? = some (.cells #[.int .i64 v, .slice (some ⟨g, 0, none⟩) ts.length cap, .int .i64 nx] 28 (0, 0)) from HYY.out)
            clear HYY HY hY
            have HP3 := Lib.hid (fun W (hb : Below w.heap.size w W) => rbyid_calls v ts nx table hn A c W hc (Kd.C_below HC.out hb))
            rw [HP.out] at HP3
            have x0 := blk_cell (j := 0) (v := .int .i64 v) HX3.out.b0 rfl
            have x1 := blk_cell (j := 1) (v := .slice A ts.length c) HX3.out.b0 rfl
            have x2 := blk_cell (j := 2) (v := .int .i64 nx) HX3.out.b0 rfl
            have y1 := blk_cell (j := 1) (v := .slice (some ⟨g, 0, none⟩) ts.length cap) HYB.out rfl
            have HH := Aside0.mk (HeldY.new (w := w) (W0 := w4) x0 x1 x2 y1)
            clear x0 x1 x2 y1
            go_region_held3 (fun W => Below w4.heap.size w4 W ∧ W.cell? ⟨w.heap.size, 0, none⟩ = some (.int .i64 v) ∧ W.cell? ⟨w.heap.size, 1, none⟩ = some (.slice A ts.length c) ∧ W.cell? ⟨w.heap.size, 2, none⟩ = some (.int .i64 nx) ∧ W.cell? ⟨m, 1, none⟩ = some (.slice (some ⟨g, 0, none⟩) ts.length cap))
              (first | exact HH.out | exact HeldY.step (m := m) ⟨by assumption, by assumption, by assumption, by assumption, by assumption⟩ hbq)
              (first | (go_at_call 65; go_split_ands; refine (HP3.out _ (below_then HX3.out.below HX3.out.below.size (by assumption))).mono ?_; rintro e w5 ⟨rfl, hbq⟩))
            rename_i hHeld
            obtain ⟨hb5, -, -, -, -⟩ := hHeld
            have HX5 := Aside0.mk (HX3.out.step hb5)
            have HY5 := Aside0.mk (blk_below HYB.out hb5)
            obtain ⟨oki, cv, iv, hL⟩ := lend (Kd.S_below HS3.out hb5) hk
            rw [HTE.out] at hL
            have HL5 := Aside0.mk hL
            clear hb5 HS3 HX3 HYB HH HP3 hL
            obtain ⟨Ac, cc, hcv, lcc, hCc⟩ := Kd.R_reads HL5.out.cols
            obtain ⟨Ai, ci, hiv, lci, hCi⟩ := Kd.R_reads HL5.out.inds
            subst hcv hiv
            have a0 := HL5.out.cell 0 rfl
            have a1 := HL5.out.cell 1 rfl
            have a2 := HL5.out.cell 2 rfl
            have a3 := HL5.out.cell 3 rfl
            have a4 := HL5.out.cell 4 rfl
            rw [Nat.add_zero] at a0
            have HCI := Lib.hid (rcolumn_calls t (by have := (tableB_lens HTB.out).2.1; omega) elem Ac cc Ai ci w5 lcc hCc lci hCi)
            rw [hci] at HCI
            go_wp2_with fail
            refine HCI.out.mono ?_
            rintro e w5b ⟨rfl, hb5b⟩
            have HX5b := Aside0.mk (HX5.out.step hb5b)
            have HY5b := Aside0.mk (blk_below HY5.out hb5b)
            have HL5b := Aside0.mk (HL5.out.step hb5b)
            clear a0 a1 a2 a3 a4 HCI hb5b hCc hCi
            have HUU := Lib.hid (HTA.out _ g cap oki _ _ HX5b.out.below HL5b.out)
            go_wp2_with fail
            refine HUU.out.mono ?_
            rintro e w6 ⟨rfl, hS6, hT6⟩
            have HX6 := Aside0.mk (HX5b.out.tch hT6)
            have hY6 := hT6.box HY5b.out
            have y0 := blk_cell (j := 0) (v := .int .i64 v) hY6 rfl
            have yf := blk_frozen hY6 0
            have hX7 := HX6.out.far (j := 0) hq3 (.int .i64 (v + 1))
            have hY7 := blk_put hY6 0 (.int .i64 (v + 1)) rfl
            have hS7 := Kd.S_set hS6 hY6 (by decide) 0 (.int .i64 (v + 1))
            have y1 := blk_cell (j := 1) (v := .slice (some ⟨g, 0, none⟩) ts.length cap) hY6 rfl
            have y2 := blk_cell (j := 2) (v := .int .i64 nx) hY6 rfl
            have f0 := blk_frozen HX6.out.b2 0
            have f1 := blk_frozen HX6.out.b2 1
            have f2 := blk_frozen HX6.out.b2 2
            have c0 := blk_cell (j := 0) (v := .int .i64 0) HX6.out.b2 rfl
            have c1 := blk_cell (j := 1) (v := .slice none 0 0) HX6.out.b2 rfl
            have c2 := blk_cell (j := 2) (v := .int .i64 0) HX6.out.b2 rfl
            have n1 : m ≠ w.heap.size + 1 := by omega
            have n2 : w.heap.size + 1 ≠ m := by omega
            have hlen : (ts.set k (T')).length = ts.length := List.length_set
            rw [← hlen] at hS7
            have HFIN := Aside0.mk (And.intro (S_set3 (a := .int .i64 (v + 1)) (b := .slice (some ⟨g, 0, none⟩) ts.length cap) (c := .int .i64 nx) hS7 hX7.b2) (hX7.out (.int .i64 (v + 1)) (.slice (some ⟨g, 0, none⟩) ts.length cap) (.int .i64 nx)))
            rw [hlen] at HFIN
            clear hS6 hT6 HUU hY6 hX7 hY7 hS7 hlen
            go_wp2
            refine bodyPost_ret (v := .tuple #[.agg #[.int .i64 (v + 1), .slice (some ⟨g, 0, none⟩) ts.length cap, .int .i64 nx], .int .i64 0]) (by simp [results, Tryd.results32, go_sem, c0, c1, c2, y0, y1, y2]) rfl ?_
            have hfin := tellse_ok (w := w) (R := R) (v := v + 1) (nx := nx) (ts := ts.set k (T')) (by rw [HR6.out]) (Kd.S_R HFIN.out.1) HFIN.out.2
            exact hfin
    · have hkk : 8 ≤ kind := by omega
      obtain ⟨hg1, rfl, hq1⟩ := hg
      obtain ⟨rfl, hq0⟩ : bb = -1 ∧ (st == 0) = false := by
        rcases hup with ⟨h, -⟩ | ⟨-, h1, h2⟩
        · cases h
        · exact ⟨h1, h2⟩
      clear hup
      by_cases hcz : idxL (cId elem) t.f2 0 = 0
      · have HI8 := Lib.hid (HI5.out.trans (if_pos ⟨hkk, hcz⟩))
        clear HI5 HTA hkk
        rcases hg1 with rfl | rfl
        all_goals
          have x0 := blk_cell (j := 0) (v := .int .i64 v) HX2.out.b0 rfl
          have x1 := blk_cell (j := 1) (v := .slice A ts.length c) HX2.out.b0 rfl
          have x2 := blk_cell (j := 2) (v := .int .i64 nx) HX2.out.b0 rfl
          go_wp2_with fail
          refine (copy_calls v ts nx (schB_small HB.out) A c w2 hc (Kd.C_below HC.out HX2.out.below)).mono ?_
          rintro e w3 ⟨u, rfl, hS, hb3⟩
          have hS' := Kd.S_lower hS HX2.out.below.size
          obtain ⟨g, cap, rfl, -⟩ := Kd.S_form hS' (by omega)
          obtain ⟨Y, hY⟩ : ∃ Y : Obj, Y = .cells #[.int .i64 v, .slice (some ⟨g, 0, none⟩) ts.length cap, .int .i64 nx] 28 := ⟨_, rfl⟩
          have hby := below_alloc (Below.refl _ w3) Y
          have hX3 := HX2.out.step hb3
          have HX3 := Aside0.mk (hX3.step hby)
          have HS3 := Aside0.mk (Kd.S_alloc hS' Y)
          have HY := Aside0.mk (heap_alloc_new w3 Y)
          have hq3 : w.heap.size + 1 < w3.heap.size := lt_of_block hX3.b2
          clear hS hS' hb3 x0 x1 x2 HX2 hby hX3
          rw [hY] at HX3 HS3 HY
          go_wp2_with fail
          rw [← hY]
          rw [← hY] at HX3 HS3 HY
          obtain ⟨m, hm⟩ : ∃ m, m = w3.heap.size := ⟨_, rfl⟩
          rw [← hm] at HY hq3 ⊢
          have HM3 := Lib.hid hm
          generalize w3.alloc Y = w4 at HX3 HS3 HY ⊢
          clear hm
          have HYY := HY
          rw [hY] at HYY
          have HYB := Aside0.mk (show w4.heap[m]? = some (.cells #[.int .i64 v, .slice (some ⟨g, 0, none⟩) ts.length cap, .int .i64 nx] 28 (0, 0)) from HYY.out)
          clear HYY HY hY
          have HP3 := Lib.hid (fun W (hb : Below w.heap.size w W) => rbyid_calls v ts nx table hn A c W hc (Kd.C_below HC.out hb))
          rw [HP.out] at HP3
          have x0 := blk_cell (j := 0) (v := .int .i64 v) HX3.out.b0 rfl
          have x1 := blk_cell (j := 1) (v := .slice A ts.length c) HX3.out.b0 rfl
          have x2 := blk_cell (j := 2) (v := .int .i64 nx) HX3.out.b0 rfl
          have y1 := blk_cell (j := 1) (v := .slice (some ⟨g, 0, none⟩) ts.length cap) HYB.out rfl
          have HH := Aside0.mk (HeldY.new (w := w) (W0 := w4) x0 x1 x2 y1)
          clear x0 x1 x2 y1
          go_region_held3 (fun W => Below w4.heap.size w4 W ∧ W.cell? ⟨w.heap.size, 0, none⟩ = some (.int .i64 v) ∧ W.cell? ⟨w.heap.size, 1, none⟩ = some (.slice A ts.length c) ∧ W.cell? ⟨w.heap.size, 2, none⟩ = some (.int .i64 nx) ∧ W.cell? ⟨m, 1, none⟩ = some (.slice (some ⟨g, 0, none⟩) ts.length cap))
            (first | exact HH.out | exact HeldY.step (m := m) ⟨by assumption, by assumption, by assumption, by assumption, by assumption⟩ hbq)
            (first | (go_at_call 65; go_split_ands; refine (HP3.out _ (below_then HX3.out.below HX3.out.below.size (by assumption))).mono ?_; rintro e w5 ⟨rfl, hbq⟩))
          rename_i hHeld
          obtain ⟨hb5, -, -, -, -⟩ := hHeld
          have HX5 := Aside0.mk (HX3.out.step hb5)
          have HY5 := Aside0.mk (blk_below HYB.out hb5)
          obtain ⟨oki, cv, iv, hL⟩ := lend (Kd.S_below HS3.out hb5) hk
          rw [HTE.out] at hL
          have HL5 := Aside0.mk hL
          clear hb5 HS3 HX3 HYB HH HP3 hL
          obtain ⟨Ac, cc, hcv, lcc, hCc⟩ := Kd.R_reads HL5.out.cols
          obtain ⟨Ai, ci, hiv, lci, hCi⟩ := Kd.R_reads HL5.out.inds
          subst hcv hiv
          have a0 := HL5.out.cell 0 rfl
          have a1 := HL5.out.cell 1 rfl
          have a2 := HL5.out.cell 2 rfl
          have a3 := HL5.out.cell 3 rfl
          have a4 := HL5.out.cell 4 rfl
          rw [Nat.add_zero] at a0
          have HCI := Lib.hid (rcolumn_calls t (by have := (tableB_lens HTB.out).2.1; omega) elem Ac cc Ai ci w5 lcc hCc lci hCi)
          rw [hcz] at HCI
          go_wp2_with fail
          refine HCI.out.mono ?_
          rintro e w5b ⟨rfl, hb5b⟩
          have HX5b := Aside0.mk (HX5.out.step hb5b)
          have HY5b := Aside0.mk (blk_below HY5.out hb5b)
          have HL5b := Aside0.mk (HL5.out.step hb5b)
          clear a0 a1 a2 a3 a4 HCI hb5b hCc hCi
          have HR := Lib.hid (show R = noTold 8 by exact HI8.out)
          have HX1 := HX5b
          have f0 := blk_frozen HX1.out.b2 0
          have f1 := blk_frozen HX1.out.b2 1
          have f2 := blk_frozen HX1.out.b2 2
          have c0 := blk_cell (j := 0) (v := .int .i64 0) HX1.out.b2 rfl
          have c1 := blk_cell (j := 1) (v := .slice none 0 0) HX1.out.b2 rfl
          have c2 := blk_cell (j := 2) (v := .int .i64 0) HX1.out.b2 rfl
          clear HI8
          go_wp2
          refine bodyPost_ret (v := .tuple #[.agg #[.int .i64 0, .slice none 0 0, .int .i64 0], .int .i64 8]) (by simp [results, Tryd.results32, go_sem, c0, c1, c2]) rfl (tellse_no HR.out (HX1.out.out _ _ _))
      · have HI6 := Lib.hid (HI5.out.trans (if_neg (fun h => hcz h.2)))
        obtain ⟨ci_, hci⟩ : ∃ x, idxL (cId elem) t.f2 0 = x := ⟨_, rfl⟩
        rw [hci] at hcz
        have hcq : (ci_ == 0) = false := by simpa using hcz
        obtain ⟨us, hus⟩ : ∃ x, usedB elem t.f3 = x := ⟨_, rfl⟩
        have hst1 : st = 1 := by simpa using hq1
        cases us with
        | true =>
          have HI8 := Lib.hid (HI6.out.trans (if_pos ⟨rfl, hst1, hg1, hus⟩))
          clear HI5 HI6 HTA hkk
          rcases hg1 with rfl | rfl
          all_goals
            have x0 := blk_cell (j := 0) (v := .int .i64 v) HX2.out.b0 rfl
            have x1 := blk_cell (j := 1) (v := .slice A ts.length c) HX2.out.b0 rfl
            have x2 := blk_cell (j := 2) (v := .int .i64 nx) HX2.out.b0 rfl
            go_wp2_with fail
            refine (copy_calls v ts nx (schB_small HB.out) A c w2 hc (Kd.C_below HC.out HX2.out.below)).mono ?_
            rintro e w3 ⟨u, rfl, hS, hb3⟩
            have hS' := Kd.S_lower hS HX2.out.below.size
            obtain ⟨g, cap, rfl, -⟩ := Kd.S_form hS' (by omega)
            obtain ⟨Y, hY⟩ : ∃ Y : Obj, Y = .cells #[.int .i64 v, .slice (some ⟨g, 0, none⟩) ts.length cap, .int .i64 nx] 28 := ⟨_, rfl⟩
            have hby := below_alloc (Below.refl _ w3) Y
            have hX3 := HX2.out.step hb3
            have HX3 := Aside0.mk (hX3.step hby)
            have HS3 := Aside0.mk (Kd.S_alloc hS' Y)
            have HY := Aside0.mk (heap_alloc_new w3 Y)
            have hq3 : w.heap.size + 1 < w3.heap.size := lt_of_block hX3.b2
            clear hS hS' hb3 x0 x1 x2 HX2 hby hX3
            rw [hY] at HX3 HS3 HY
            go_wp2_with fail
            rw [← hY]
            rw [← hY] at HX3 HS3 HY
            obtain ⟨m, hm⟩ : ∃ m, m = w3.heap.size := ⟨_, rfl⟩
            rw [← hm] at HY hq3 ⊢
            have HM3 := Lib.hid hm
            generalize w3.alloc Y = w4 at HX3 HS3 HY ⊢
            clear hm
            have HYY := HY
            rw [hY] at HYY
            have HYB := Aside0.mk (show w4.heap[m]? = some (.cells #[.int .i64 v, .slice (some ⟨g, 0, none⟩) ts.length cap, .int .i64 nx] 28 (0, 0)) from HYY.out)
            clear HYY HY hY
            have HP3 := Lib.hid (fun W (hb : Below w.heap.size w W) => rbyid_calls v ts nx table hn A c W hc (Kd.C_below HC.out hb))
            rw [HP.out] at HP3
            have x0 := blk_cell (j := 0) (v := .int .i64 v) HX3.out.b0 rfl
            have x1 := blk_cell (j := 1) (v := .slice A ts.length c) HX3.out.b0 rfl
            have x2 := blk_cell (j := 2) (v := .int .i64 nx) HX3.out.b0 rfl
            have y1 := blk_cell (j := 1) (v := .slice (some ⟨g, 0, none⟩) ts.length cap) HYB.out rfl
            have HH := Aside0.mk (HeldY.new (w := w) (W0 := w4) x0 x1 x2 y1)
            clear x0 x1 x2 y1
            go_region_held3 (fun W => Below w4.heap.size w4 W ∧ W.cell? ⟨w.heap.size, 0, none⟩ = some (.int .i64 v) ∧ W.cell? ⟨w.heap.size, 1, none⟩ = some (.slice A ts.length c) ∧ W.cell? ⟨w.heap.size, 2, none⟩ = some (.int .i64 nx) ∧ W.cell? ⟨m, 1, none⟩ = some (.slice (some ⟨g, 0, none⟩) ts.length cap))
              (first | exact HH.out | exact HeldY.step (m := m) ⟨by assumption, by assumption, by assumption, by assumption, by assumption⟩ hbq)
              (first | (go_at_call 65; go_split_ands; refine (HP3.out _ (below_then HX3.out.below HX3.out.below.size (by assumption))).mono ?_; rintro e w5 ⟨rfl, hbq⟩))
            rename_i hHeld
            obtain ⟨hb5, -, -, -, -⟩ := hHeld
            have HX5 := Aside0.mk (HX3.out.step hb5)
            have HY5 := Aside0.mk (blk_below HYB.out hb5)
            obtain ⟨oki, cv, iv, hL⟩ := lend (Kd.S_below HS3.out hb5) hk
            rw [HTE.out] at hL
            have HL5 := Aside0.mk hL
            clear hb5 HS3 HX3 HYB HH HP3 hL
            obtain ⟨Ac, cc, hcv, lcc, hCc⟩ := Kd.R_reads HL5.out.cols
            obtain ⟨Ai, ci, hiv, lci, hCi⟩ := Kd.R_reads HL5.out.inds
            subst hcv hiv
            have a0 := HL5.out.cell 0 rfl
            have a1 := HL5.out.cell 1 rfl
            have a2 := HL5.out.cell 2 rfl
            have a3 := HL5.out.cell 3 rfl
            have a4 := HL5.out.cell 4 rfl
            rw [Nat.add_zero] at a0
            have HCI := Lib.hid (rcolumn_calls t (by have := (tableB_lens HTB.out).2.1; omega) elem Ac cc Ai ci w5 lcc hCc lci hCi)
            rw [hci] at HCI
            have HCc := Aside0.mk hCc
            have HCi := Aside0.mk hCi
            have HUC := Lib.hid (fun W (hb : Below w5.heap.size w5 W) => rused_calls t (tableB_lens HTB.out).2.2.1 (fun x hx => ((tableB_lens HTB.out).2.2.2 x hx).2) elem Ac cc Ai ci W lcc (Kd.C_below HCc.out hb) lci (Kd.C_below HCi.out hb))
            rw [hus] at HUC
            go_wp2_with fail
            refine HCI.out.mono ?_
            rintro e w5b ⟨rfl, hb5b⟩
            have HX5b := Aside0.mk (HX5.out.step hb5b)
            have HY5b := Aside0.mk (blk_below HY5.out hb5b)
            have HL5b := Aside0.mk (HL5.out.step hb5b)
            have HB5b := Aside0.mk hb5b
            clear a0 a1 a2 a3 a4 HCI hb5b hCc hCi
            have a0 := HL5b.out.cell 0 rfl
            have a1 := HL5b.out.cell 1 rfl
            have a2 := HL5b.out.cell 2 rfl
            have a3 := HL5b.out.cell 3 rfl
            have a4 := HL5b.out.cell 4 rfl
            rw [Nat.add_zero] at a0
            go_wp2_with fail
            refine (HUC.out _ HB5b.out).mono ?_
            rintro e w5c ⟨rfl, hb5c⟩
            have HX5c := Aside0.mk (HX5b.out.step hb5c)
            have HY5c := Aside0.mk (blk_below HY5b.out hb5c)
            have HL5c := Aside0.mk (HL5b.out.step hb5c)
            clear a0 a1 a2 a3 a4 hb5c HUC
            have HR := Lib.hid (show R = noTold 18 by exact HI8.out)
            have HX1 := HX5c
            have f0 := blk_frozen HX1.out.b2 0
            have f1 := blk_frozen HX1.out.b2 1
            have f2 := blk_frozen HX1.out.b2 2
            have c0 := blk_cell (j := 0) (v := .int .i64 0) HX1.out.b2 rfl
            have c1 := blk_cell (j := 1) (v := .slice none 0 0) HX1.out.b2 rfl
            have c2 := blk_cell (j := 2) (v := .int .i64 0) HX1.out.b2 rfl
            clear HI8
            go_wp2
            refine bodyPost_ret (v := .tuple #[.agg #[.int .i64 0, .slice none 0 0, .int .i64 0], .int .i64 18]) (by simp [results, Tryd.results32, go_sem, c0, c1, c2]) rfl (tellse_no HR.out (HX1.out.out _ _ _))
        | false =>
          have HR6 := Lib.hid (HI6.out.trans (if_neg (by rintro ⟨-, -, -, h⟩; rw [hus] at h; cases h)))
          clear HI5 HI6 hkk
          rcases hg1 with rfl | rfl
          all_goals
            have x0 := blk_cell (j := 0) (v := .int .i64 v) HX2.out.b0 rfl
            have x1 := blk_cell (j := 1) (v := .slice A ts.length c) HX2.out.b0 rfl
            have x2 := blk_cell (j := 2) (v := .int .i64 nx) HX2.out.b0 rfl
            go_wp2_with fail
            refine (copy_calls v ts nx (schB_small HB.out) A c w2 hc (Kd.C_below HC.out HX2.out.below)).mono ?_
            rintro e w3 ⟨u, rfl, hS, hb3⟩
            have hS' := Kd.S_lower hS HX2.out.below.size
            obtain ⟨g, cap, rfl, -⟩ := Kd.S_form hS' (by omega)
            obtain ⟨Y, hY⟩ : ∃ Y : Obj, Y = .cells #[.int .i64 v, .slice (some ⟨g, 0, none⟩) ts.length cap, .int .i64 nx] 28 := ⟨_, rfl⟩
            have hby := below_alloc (Below.refl _ w3) Y
            have hX3 := HX2.out.step hb3
            have HX3 := Aside0.mk (hX3.step hby)
            have HS3 := Aside0.mk (Kd.S_alloc hS' Y)
            have HY := Aside0.mk (heap_alloc_new w3 Y)
            have hq3 : w.heap.size + 1 < w3.heap.size := lt_of_block hX3.b2
            clear hS hS' hb3 x0 x1 x2 HX2 hby hX3
            rw [hY] at HX3 HS3 HY
            go_wp2_with fail
            rw [← hY]
            rw [← hY] at HX3 HS3 HY
            obtain ⟨m, hm⟩ : ∃ m, m = w3.heap.size := ⟨_, rfl⟩
            rw [← hm] at HY hq3 ⊢
            have HM3 := Lib.hid hm
            generalize w3.alloc Y = w4 at HX3 HS3 HY ⊢
            clear hm
            have HYY := HY
            rw [hY] at HYY
            have HYB := Aside0.mk (show w4.heap[m]? = some (.cells #[.int .i64 v, .slice (some ⟨g, 0, none⟩) ts.length cap, .int .i64 nx] 28 (0, 0)) from HYY.out)
            clear HYY HY hY
            have HP3 := Lib.hid (fun W (hb : Below w.heap.size w W) => rbyid_calls v ts nx table hn A c W hc (Kd.C_below HC.out hb))
            rw [HP.out] at HP3
            have x0 := blk_cell (j := 0) (v := .int .i64 v) HX3.out.b0 rfl
            have x1 := blk_cell (j := 1) (v := .slice A ts.length c) HX3.out.b0 rfl
            have x2 := blk_cell (j := 2) (v := .int .i64 nx) HX3.out.b0 rfl
            have y1 := blk_cell (j := 1) (v := .slice (some ⟨g, 0, none⟩) ts.length cap) HYB.out rfl
            have HH := Aside0.mk (HeldY.new (w := w) (W0 := w4) x0 x1 x2 y1)
            clear x0 x1 x2 y1
            go_region_held3 (fun W => Below w4.heap.size w4 W ∧ W.cell? ⟨w.heap.size, 0, none⟩ = some (.int .i64 v) ∧ W.cell? ⟨w.heap.size, 1, none⟩ = some (.slice A ts.length c) ∧ W.cell? ⟨w.heap.size, 2, none⟩ = some (.int .i64 nx) ∧ W.cell? ⟨m, 1, none⟩ = some (.slice (some ⟨g, 0, none⟩) ts.length cap))
              (first | exact HH.out | exact HeldY.step (m := m) ⟨by assumption, by assumption, by assumption, by assumption, by assumption⟩ hbq)
              (first | (go_at_call 65; go_split_ands; refine (HP3.out _ (below_then HX3.out.below HX3.out.below.size (by assumption))).mono ?_; rintro e w5 ⟨rfl, hbq⟩))
            rename_i hHeld
            obtain ⟨hb5, -, -, -, -⟩ := hHeld
            have HX5 := Aside0.mk (HX3.out.step hb5)
            have HY5 := Aside0.mk (blk_below HYB.out hb5)
            obtain ⟨oki, cv, iv, hL⟩ := lend (Kd.S_below HS3.out hb5) hk
            rw [HTE.out] at hL
            have HL5 := Aside0.mk hL
            clear hb5 HS3 HX3 HYB HH HP3 hL
            obtain ⟨Ac, cc, hcv, lcc, hCc⟩ := Kd.R_reads HL5.out.cols
            obtain ⟨Ai, ci, hiv, lci, hCi⟩ := Kd.R_reads HL5.out.inds
            subst hcv hiv
            have a0 := HL5.out.cell 0 rfl
            have a1 := HL5.out.cell 1 rfl
            have a2 := HL5.out.cell 2 rfl
            have a3 := HL5.out.cell 3 rfl
            have a4 := HL5.out.cell 4 rfl
            rw [Nat.add_zero] at a0
            have HCI := Lib.hid (rcolumn_calls t (by have := (tableB_lens HTB.out).2.1; omega) elem Ac cc Ai ci w5 lcc hCc lci hCi)
            rw [hci] at HCI
            have HCc := Aside0.mk hCc
            have HCi := Aside0.mk hCi
            have HUC := Lib.hid (fun W (hb : Below w5.heap.size w5 W) => rused_calls t (tableB_lens HTB.out).2.2.1 (fun x hx => ((tableB_lens HTB.out).2.2.2 x hx).2) elem Ac cc Ai ci W lcc (Kd.C_below HCc.out hb) lci (Kd.C_below HCi.out hb))
            rw [hus] at HUC
            go_wp2_with fail
            refine HCI.out.mono ?_
            rintro e w5b ⟨rfl, hb5b⟩
            have HX5b := Aside0.mk (HX5.out.step hb5b)
            have HY5b := Aside0.mk (blk_below HY5.out hb5b)
            have HL5b := Aside0.mk (HL5.out.step hb5b)
            have HB5b := Aside0.mk hb5b
            clear a0 a1 a2 a3 a4 HCI hb5b hCc hCi
            have a0 := HL5b.out.cell 0 rfl
            have a1 := HL5b.out.cell 1 rfl
            have a2 := HL5b.out.cell 2 rfl
            have a3 := HL5b.out.cell 3 rfl
            have a4 := HL5b.out.cell 4 rfl
            rw [Nat.add_zero] at a0
            go_wp2_with fail
            refine (HUC.out _ HB5b.out).mono ?_
            rintro e w5c ⟨rfl, hb5c⟩
            have HX5c := Aside0.mk (HX5b.out.step hb5c)
            have HY5c := Aside0.mk (blk_below HY5b.out hb5c)
            have HL5c := Aside0.mk (HL5b.out.step hb5c)
            clear a0 a1 a2 a3 a4 hb5c HUC
            have HUU := Lib.hid (HTA.out _ g cap oki _ _ HX5c.out.below HL5c.out)
            go_wp2_with fail
            refine HUU.out.mono ?_
            rintro e w6 ⟨rfl, hS6, hT6⟩
            have HX6 := Aside0.mk (HX5c.out.tch hT6)
            have hY6 := hT6.box HY5c.out
            have y0 := blk_cell (j := 0) (v := .int .i64 v) hY6 rfl
            have yf := blk_frozen hY6 0
            have hX7 := HX6.out.far (j := 0) hq3 (.int .i64 (v + 1))
            have hY7 := blk_put hY6 0 (.int .i64 (v + 1)) rfl
            have hS7 := Kd.S_set hS6 hY6 (by decide) 0 (.int .i64 (v + 1))
            have y1 := blk_cell (j := 1) (v := .slice (some ⟨g, 0, none⟩) ts.length cap) hY6 rfl
            have y2 := blk_cell (j := 2) (v := .int .i64 nx) hY6 rfl
            have f0 := blk_frozen HX6.out.b2 0
            have f1 := blk_frozen HX6.out.b2 1
            have f2 := blk_frozen HX6.out.b2 2
            have c0 := blk_cell (j := 0) (v := .int .i64 0) HX6.out.b2 rfl
            have c1 := blk_cell (j := 1) (v := .slice none 0 0) HX6.out.b2 rfl
            have c2 := blk_cell (j := 2) (v := .int .i64 0) HX6.out.b2 rfl
            have n1 : m ≠ w.heap.size + 1 := by omega
            have n2 : w.heap.size + 1 ≠ m := by omega
            have hlen : (ts.set k (T')).length = ts.length := List.length_set
            rw [← hlen] at hS7
            have HFIN := Aside0.mk (And.intro (S_set3 (a := .int .i64 (v + 1)) (b := .slice (some ⟨g, 0, none⟩) ts.length cap) (c := .int .i64 nx) hS7 hX7.b2) (hX7.out (.int .i64 (v + 1)) (.slice (some ⟨g, 0, none⟩) ts.length cap) (.int .i64 nx)))
            rw [hlen] at HFIN
            clear hS6 hT6 HUU hY6 hX7 hY7 hS7 hlen
            go_wp2
            refine bodyPost_ret (v := .tuple #[.agg #[.int .i64 (v + 1), .slice (some ⟨g, 0, none⟩) ts.length cap, .int .i64 nx], .int .i64 0]) (by simp [results, Tryd.results32, go_sem, c0, c1, c2, y0, y1, y2]) rfl ?_
            have hfin := tellse_ok (w := w) (R := R) (v := v + 1) (nx := nx) (ts := ts.set k (T')) (by rw [HR6.out]) (Kd.S_R HFIN.out.1) HFIN.out.2
            exact hfin
end Go.Proofs.YtjgomlcdmpcoaaaDoor.H
namespace Go.Proofs.YtjgomlcdmpcoaaaDoor.H
open Go.RowKit Go.Proofs.YtjgomlcdmpcoaaaDoorW.PrintWords Go.Proofs.YtjgomlcdmpcoaaaDoorW.PrintLast Go.Proofs.YtjgomlcdmpcoaaaDoorW.PrintMore
open Go.Proofs.YtjgomlcdmpcoaaaDoor.D Go.Proofs.YtjgomlcdmpcoaaaDoor
set_option linter.unusedVariables false
set_option linter.unusedSimpArgs false
def cName (n : ByteArray) (c : S75) : Bool := decide (c.f1.toList = n.toList)
def dflt (s : S45) : S73 := match s.f4 with
  | [] => ⟨0, 0, 0, ⟨#[]⟩⟩
  | d :: _ => d
def addColP (t : S70) (s : S45) : S70 × Int × Int :=
  if nameB s.f2 = false ∨ s.f8 < 1 ∨ 5 < s.f8 then (t, 0, 3)
  else if t.f2.any (cName s.f2) = true then (t, 0, 6)
  else if valB (dflt s) = false ∨ ((dflt s).f0 ≠ 0 ∧ (dflt s).f0 ≠ s.f8) then (t, 0, 7)
  else if 8 ≤ t.f2.length ∨ 60000 ≤ t.f4 then (t, 0, 4)
  else (⟨t.f0, t.f1, t.f2 ++ [⟨t.f4, s.f2, s.f8, 1, 0, dflt s⟩], t.f3, t.f4 + 1⟩, t.f4, 0)
theorem rval_calls (v : S73) (h : ValWf v) (w : World) : Calls Tryd.prog 118 #[.agg #[.int .i64 v.f0, .int .i64 v.f1, .int .u64 v.f2, .string v.f3]] w fun e w' => e = .returned (.bool (valB v)) ∧ Below w.heap.size w w' :=
  falseworkref2_May.calls v.f0 v.f1 v.f2 v.f3 _ w (ref_val v h)
structure ColSt (w2 wz : World) (n4 : Int) (nm_ : ByteArray) (kd : Int) (d : S73) : Prop where
  below : Below w2.heap.size w2 wz
  box : wz.heap[w2.heap.size]? = some (.cells #[.int .i64 n4, .string nm_, .int .i64 kd, .int .i64 1, .int .i64 0, .int .i64 d.f0, .int .i64 d.f1, .int .u64 d.f2, .string d.f3] 75 (0, 0))
theorem ColSt.new (w2 : World) (n4 : Int) (nm_ : ByteArray) (kd : Int) : ColSt w2 (w2.alloc (.cells #[.int .i64 n4, .string nm_, .int .i64 kd, .int .i64 1, .int .i64 0, .int .i64 0, .int .i64 0, .int .u64 0, .string ⟨#[]⟩] 75)).drew n4 nm_ kd ⟨0, 0, 0, ⟨#[]⟩⟩ :=
  ⟨below_drew (below_alloc (Below.refl _ _) _), heap_alloc_new w2 _⟩
theorem ColSt.step {w2 wz W : World} {n4 : Int} {nm_ : ByteArray} {kd : Int} {d : S73} (h : ColSt w2 wz n4 nm_ kd d) (hb : Below wz.heap.size wz W) : ColSt w2 W n4 nm_ kd d :=
  ⟨below_then h.below h.below.size hb, blk_below h.box hb⟩
theorem ColSt.put {w2 wz : World} {n4 : Int} {nm_ : ByteArray} {kd : Int} {d : S73} (h : ColSt w2 wz n4 nm_ kd d) (e : S73) :
    ColSt w2 ((((wz.setCell ⟨w2.heap.size, 5, none⟩ (.int .i64 e.f0)).setCell ⟨w2.heap.size, 6, none⟩ (.int .i64 e.f1)).setCell ⟨w2.heap.size, 7, none⟩ (.int .u64 e.f2)).setCell ⟨w2.heap.size, 8, none⟩ (.string e.f3)) n4 nm_ kd e :=
  ⟨(((h.below.setCell (p := ⟨w2.heap.size, 5, none⟩) (Nat.le_refl _) _).setCell (p := ⟨w2.heap.size, 6, none⟩) (Nat.le_refl _) _).setCell (p := ⟨w2.heap.size, 7, none⟩) (Nat.le_refl _) _).setCell (p := ⟨w2.heap.size, 8, none⟩) (Nat.le_refl _) _,
    blk_put (blk_put (blk_put (blk_put h.box 5 (.int .i64 e.f0) rfl) 6 (.int .i64 e.f1) rfl) 7 (.int .u64 e.f2) rfl) 8 (.string e.f3) rfl⟩
set_option maxRecDepth 100000 in
set_option maxHeartbeats 4000000 in
theorem addColumn_upd : Upd 63 addColP := by
  intro w0 W g n cap ts i oki t cv iv s cs hB hL ht hs hok
  obtain ⟨A3, c3, A4, c4, A5, c5, A6, c6, A9, c9, rfl, -, -, l4, g4, -, -, -, -, -, -⟩ := k45_open hs
  obtain ⟨m2, m3, m4, m5⟩ := tableB_lens ht
  obtain ⟨Ai, ci, hiv⟩ := Kd.R_slice hL.inds
  obtain ⟨Ac, cc, hcv⟩ := Kd.R_slice hL.cols
  subst hiv hcv
  have HC := Aside0.mk g4
  have hl4 := hok.2.1
  have HVW := Lib.hid hok.2.2.2.2.2
  obtain ⟨BX, hBX⟩ : ∃ b : Array Value, b = #[.int .i64 s.f0, .string s.f1, .string s.f2, .slice A3 s.f3.length c3, .slice A4 s.f4.length c4, .slice A5 s.f5.length c5, .slice A6 s.f6.length c6, .bool s.f7, .int .i64 s.f8, .slice A9 s.f9.length c9] := ⟨_, rfl⟩
  have HN := Lib.hid (fun w => rname_calls s.f2 w)
  have HI := Lib.hid (show addColP t s = _ by unfold addColP; exact rfl)
  have HU := Aside0.mk ((⟨hL, Tch.refl _ _, hB.size⟩ : UpdSt w0 W W g n cap ts i oki t (.slice Ac t.f2.length cc) (.slice Ai t.f3.length ci)).step (below_alloc (Below.refl _ _) (.cells #[.int .i64 s.f0, .string s.f1, .string s.f2, .slice A3 s.f3.length c3, .slice A4 s.f4.length c4, .slice A5 s.f5.length c5, .slice A6 s.f6.length c6, .bool s.f7, .int .i64 s.f8, .slice A9 s.f9.length c9] 45)))
  have HX0 := Aside0.mk (heap_alloc_new W (.cells #[.int .i64 s.f0, .string s.f1, .string s.f2, .slice A3 s.f3.length c3, .slice A4 s.f4.length c4, .slice A5 s.f5.length c5, .slice A6 s.f6.length c6, .bool s.f7, .int .i64 s.f8, .slice A9 s.f9.length c9] 45))
  have HB := Aside0.mk hB
  have HB4 := Aside0.mk (show 1 ≤ t.f4 ∧ t.f4 ≤ 60000 by unfold tableB at ht; simp only [Bool.and_eq_true, decide_eq_true_eq] at ht; exact ⟨ht.1, ht.2.1⟩)
  clear hB hL g4 hs hok
  by_cases hbad : nameB s.f2 = false ∨ s.f8 < 1 ∨ 5 < s.f8
  · have hR : addColP t s = (t, 0, 3) := by rw [HI.out, if_pos hbad]
    rw [hR]
    have hbad' : (nameB s.f2 = false) ∨ (nameB s.f2 = true ∧ decide (s.f8 < 1) = true) ∨ (nameB s.f2 = true ∧ decide (s.f8 < 1) = false ∧ decide (5 < s.f8) = true) := by
      cases hq : nameB s.f2
      · exact .inl rfl
      · rw [hq] at hbad
        by_cases h1 : s.f8 < 1
        · exact .inr (.inl ⟨rfl, decide_eq_true h1⟩)
        · exact .inr (.inr ⟨rfl, decide_eq_false h1, decide_eq_true (by have := hbad.resolve_left (by simp); omega)⟩)
    clear hR HI hbad
    rcases hbad' with h1 | ⟨h1, h2⟩ | ⟨h1, h2, h3⟩
    all_goals
      rw [h1] at HN
      clear h1
      go_enter Tryd.func63, Tryd.ntmps63
      go_wp2_with (go_at_call 34; refine (HN.out _).mono ?_; rintro e w1 ⟨rfl, hb1⟩; have hx1 := blk_below HX0.out hb1; have x8 := blk_cell (j := 8) (v := .int .i64 s.f8) hx1 rfl; clear hx1)
      go_ret2
      exact ⟨rfl, (HU.out.step hb1).done⟩
  obtain ⟨T, id, er, hTR⟩ : ∃ T id er, addColP t s = (T, id, er) := ⟨_, _, _, rfl⟩
  rw [hTR]
  rw [hTR] at HI
  have HI2 := Lib.hid (HI.out.trans (if_neg hbad))
  have hnm : nameB s.f2 = true := by
    cases hq : nameB s.f2
    · exact absurd (.inl hq) hbad
    · rfl
  rw [hnm] at HN
  have hd1 : decide (s.f8 < 1) = false := decide_eq_false (fun h => hbad (.inr (.inl h)))
  have hd5 : decide (5 < s.f8) = false := decide_eq_false (fun h => hbad (.inr (.inr h)))
  clear HI hnm hbad hTR
  go_enter Tryd.func63, Tryd.ntmps63
  go_wp2_with (go_at_call 34; refine (HN.out _).mono ?_; rintro e w1 ⟨rfl, hb1⟩; have hx1 := blk_below HX0.out hb1; have x8 := blk_cell (j := 8) (v := .int .i64 s.f8) hx1 rfl; have HX := Aside0.mk hx1; have HU1 := Aside0.mk (HU.out.step hb1); clear hx1 hb1)
  have HX1 := Aside0.mk (show w1.heap[W.heap.size]? = some (.cells BX 45 (0, 0)) by rw [hBX]; exact HX.out)
  clear HX HU x8 HN hd1 hd5 HX0
  go_loopg [6] t.f2.length (fun gg u6 wr => ∃ k : Nat, k ≤ t.f2.length ∧ t.f2.length - k ≤ gg ∧ u6 = .int .i64 k ∧ Aside0 (UpdSt w0 W wr g n cap ts i oki t (.slice Ac t.f2.length cc) (.slice Ai t.f3.length ci)) ∧ Aside0 (wr.heap[W.heap.size]? = some (.cells BX 45 (0, 0))) ∧ Aside0 (t.f2.any (cName s.f2) = (t.f2.drop k).any (cName s.f2)))
  case atStart => exact ⟨0, Nat.zero_le _, by omega, rfl, HU1, HX1, ⟨by rw [List.drop_zero]⟩⟩
  case round =>
    clear HU1 HX1
    obtain ⟨k, hk, hgk, rfl, HU, HX, HA⟩ := hrel
    have a2 := HU.out.lent.cell 2 rfl
    have x2 := blk_cell (j := 2) (v := .string s.f2) HX.out (by rw [hBX]; rfl)
    by_cases hlt : k < t.f2.length
    · have hltz : (k : Int) < (t.f2.length : Int) := by omega
      obtain ⟨-, -, hC⟩ := Kd.R_reads' HU.out.lent.cols
      obtain ⟨ae, eA5, e0, e1, -⟩ := at_T75 hC (k : Int) (by omega) (by omega)
      have hx : rd_T75 t.f2 (k : Int) = t.f2[k] := rd75 _ _ hlt
      rw [hx] at e0 e1
      simp only [Int.toNat_natCast] at e0 e1
      cases eA5
      have hdr : t.f2.drop k = t.f2[k] :: t.f2.drop (k + 1) := List.drop_eq_getElem_cons hlt
      have hA := HA.out
      rw [hdr, List.any_cons] at hA
      generalize t.f2[k] = x at e0 e1 hA
      clear hdr hx hC HA e0
      by_cases hm : x.f1.toList = s.f2.toList
      · have hq : (x.f1.toList == s.f2.toList) = true := by simpa using hm
        have hxn : cName s.f2 x = true := decide_eq_true hm
        have HR := Lib.hid (show (T, id, er) = (t, 0, 6) by rw [HI2.out, hA, hxn, if_pos (by rfl)])
        clear hA hm hxn
        go_wp2_with fail
        go_quiet (fail)
        go_wp2
        go_ret2
        obtain ⟨rfl, rfl, rfl⟩ : T = t ∧ id = 0 ∧ er = 6 := by have := HR.out; simp only [Prod.mk.injEq] at this; exact this
        exact ⟨rfl, (HU.out.step (pw_below_drewN (Below.refl _ _) _)).done⟩
      · have hq : (x.f1.toList == s.f2.toList) = false := by simpa using hm
        have hxn : cName s.f2 x = false := decide_eq_false hm
        rw [hxn, Bool.false_or] at hA
        have HA := Aside0.mk hA
        clear hA hm hxn
        go_wp2_with fail
        go_quiet (fail)
        go_wp2
        go_roundg (t.f2.length - (k + 1))
        case measure => omega
        case rel => exact ⟨k + 1, by omega, by omega, by go_num, ⟨HU.out.step (pw_below_drewN (Below.refl _ _) _)⟩, ⟨blk_below HX.out (pw_below_drewN (Below.refl _ _) _)⟩, HA⟩
    · have hltz : ¬ (k : Int) < (t.f2.length : Int) := by omega
      have hA := HA.out
      rw [List.drop_eq_nil_of_le (by omega), List.any_nil] at hA
      have HI3 := Lib.hid (HI2.out.trans (by rw [hA, if_neg (by simp)]))
      have x8 := blk_cell (j := 8) (v := .int .i64 s.f8) HX.out (by rw [hBX]; rfl)
      have a4 := HU.out.lent.cell 4 rfl
      have hq1 : W.heap.size < wr.heap.size := lt_of_block HX.out
      obtain ⟨gcs, hgb⟩ := HU.out.lent.blk
      have hq2 : g < wr.heap.size := lt_of_block hgb
      clear hA HA HI2 hgb
      have HS := Aside0.mk (ColSt.new wr t.f4 s.f2 s.f8)
      go_wp2_with fail
      go_region
      clear a2 a4 x2 x8
      generalize (wr.alloc (.cells #[.int .i64 t.f4, .string s.f2, .int .i64 s.f8, .int .i64 1, .int .i64 0, .int .i64 0, .int .i64 0, .int .u64 0, .string ⟨#[]⟩] 75)).drew = wz at HS ⊢
      have HX2 := Aside0.mk (blk_below HX.out HS.out.below)
      have x4 := blk_cell (j := 4) (v := .slice A4 s.f4.length c4) HX2.out (by rw [hBX]; rfl)
      have HW := Aside0.mk (HB.out.trans HU.out.tch.below)
      have HCz := Aside0.mk (Kd.C_below (Kd.C_below HC.out HW.out) (HS.out.below.mono (by have := HW.out.size; omega)))
      have hq3 : wr.heap.size < wz.heap.size := lt_of_block HS.out.box
      obtain ⟨d, hd⟩ : ∃ d, dflt s = d := ⟨_, rfl⟩
      rw [hd] at HI3
      have hcase : (s.f4.length = 0 ∧ d = ⟨0, 0, 0, ⟨#[]⟩⟩) ∨ (∃ h : 0 < s.f4.length, s.f4[0] = d) := by
        rw [← hd]
        unfold dflt
        cases s.f4 with
        | nil => exact .inl ⟨rfl, rfl⟩
        | cons a l => exact .inr ⟨by simp, rfl⟩
      have HVd := Lib.hid (show ValWf d by
        rcases hcase with ⟨-, rfl⟩ | ⟨h, rfl⟩
        · exact ⟨by decide, by decide⟩
        · exact HVW.out _ (List.getElem_mem h))
      clear hd HVW
      rcases hcase with ⟨h0, rfl⟩ | ⟨h0, hd⟩
      · have hz : decide (0 < (s.f4.length : Int)) = false := decide_eq_false (by omega)
        have HI4 := Lib.hid (HI3.out.trans (if_neg (show ¬ (valB ⟨0, 0, 0, ⟨#[]⟩⟩ = false ∨ ((0 : Int) ≠ 0 ∧ (0 : Int) ≠ s.f8)) by simp [valB, mayB])))
        have HSz := HS
        have hz' : ¬ (0 : Int) < (s.f4.length : Int) := by omega
        clear HI3 HS HVd
        have HUz := Aside0.mk (HU.out.step HSz.out.below)
        have a2 := HUz.out.lent.cell 2 rfl
        have a4 := HUz.out.lent.cell 4 rfl
        by_cases h8 : 8 ≤ t.f2.length
        · have hd8 : decide ((8 : Int) ≤ (t.f2.length : Int)) = true := decide_eq_true (by omega)
          have HR := Lib.hid (show (T, id, er) = (t, 0, 4) by rw [HI4.out]; exact if_pos (.inl h8))
          clear h8
          go_wp2
          go_ret2
          obtain ⟨rfl, rfl, rfl⟩ : T = t ∧ id = 0 ∧ er = 4 := by have := HR.out; simp only [Prod.mk.injEq] at this; exact this
          exact ⟨rfl, HUz.out.done⟩
        have hd8 : decide ((8 : Int) ≤ (t.f2.length : Int)) = false := decide_eq_false (by omega)
        by_cases h6 : 60000 ≤ t.f4
        · have HR := Lib.hid (show (T, id, er) = (t, 0, 4) by rw [HI4.out]; exact if_pos (.inr h6))
          have hd6 : decide (60000 ≤ t.f4) = true := decide_eq_true h6
          clear h8 h6
          go_wp2
          go_ret2
          obtain ⟨rfl, rfl, rfl⟩ : T = t ∧ id = 0 ∧ er = 4 := by have := HR.out; simp only [Prod.mk.injEq] at this; exact this
          exact ⟨rfl, HUz.out.done⟩
        have HI5 := Lib.hid (HI4.out.trans (if_neg (show ¬ (8 ≤ t.f2.length ∨ 60000 ≤ t.f4) by omega)))
        have hd6 : decide (60000 ≤ t.f4) = false := decide_eq_false h6
        have hn0 := HB4.out
        have f4 := HUz.out.lent.frozen (i * 5 + 4)
        have hUn := HUz.out.setN (t.f4 + 1) rfl
        obtain ⟨gc', hgb'⟩ := HUz.out.lent.blk
        have hne : wr.heap.size ≠ g := by omega
        have hxn := blk_far HSz.out.box (p := ⟨g, i * 5 + 4, none⟩) hne (.int .i64 (t.f4 + 1))
        have hzn : wr.heap.size < (wz.setCell ⟨g, i * 5 + 4, none⟩ (.int .i64 (t.f4 + 1))).heap.size := lt_of_block hxn
        have hgn : g < (wz.setCell ⟨g, i * 5 + 4, none⟩ (.int .i64 (t.f4 + 1))).heap.size := by have := lt_of_block hgb'; simpa [World.setCell] using this
        clear h8 h6
        go_wp2_with fail
        clear f4 a2 a4 hd8 hd6 hgb'
        generalize wz.setCell ⟨g, i * 5 + 4, none⟩ (.int .i64 (t.f4 + 1)) = wn at hUn hxn hzn hgn ⊢
        have a2 := hUn.lent.cell 2 rfl
        have x0 := blk_cell (j := 0) (v := .int .i64 t.f4) hxn rfl
        have x1 := blk_cell (j := 1) (v := .string s.f2) hxn rfl
        have x2 := blk_cell (j := 2) (v := .int .i64 s.f8) hxn rfl
        have x3 := blk_cell (j := 3) (v := .int .i64 1) hxn rfl
        have x4 := blk_cell (j := 4) (v := .int .i64 0) hxn rfl
        have x5 := blk_cell (j := 5) (v := .int .i64 0) hxn rfl
        have x6 := blk_cell (j := 6) (v := .int .i64 0) hxn rfl
        have x7 := blk_cell (j := 7) (v := .int .u64 0) hxn rfl
        have x8 := blk_cell (j := 8) (v := .string ⟨#[]⟩) hxn rfl
        have HUn := Aside0.mk hUn
        have HXn := Aside0.mk hxn
        have HBZ := Aside0.mk (Nat.le_trans hUn.base hUn.tch.size)
        clear hUn hxn
        go_region_law
          ((refine step_R k75 (by rfl) (.tmp 102) (.tmp 104) 67 75 (.agg #[(.int .i64 0), (.string ⟨#[]⟩), (.int .i64 0), (.int .i64 0), (.int .i64 0), (.int .i64 0), (.int .i64 0), (.int .u64 0), (.string ⟨#[]⟩)]) 88 (by rfl) Tryd.underlying67 info75 (by rfl) (by decide) (by decide) w0.heap.size (.slice Ac t.f2.length cc) t.f2 (⟨t.f4, s.f2, s.f8, 1, 0, ⟨0, 0, 0, ⟨#[]⟩⟩⟩ : S75) [.int .i64 t.f4, .string s.f2, .int .i64 s.f8, .int .i64 1, .int .i64 0, .int .i64 0, .int .i64 0, .int .u64 0, .string ⟨#[]⟩] oki (fun _ => False) (by rfl) (by repeat (first | exact HUn.out.lent.cols | refine Kd.R_drew ?_ | refine Kd.R_alloc ?_ _)) ⟨wn.heap.size, 0, none⟩ (by rfl) (World.news_of_block (cs := #[_, _, _, _, _, _, _, _, _]) (t := 75) (fr := (0, 0)) (heap_alloc_new wn _)) (k75_mkM _ _ _ (⟨t.f4, s.f2, s.f8, 1, 0, ⟨0, 0, 0, ⟨#[]⟩⟩⟩ : S75)) (fun _ h => h.elim) (fun k hk => HUn.out.lent.fresh k (Nat.le_trans (by simp) hk)) (Nat.le_trans HBZ.out (by simp)) (by omega) ?_; intro A1 c1 w1 hr hg1; have hx1 : w1.heap[g]? = wn.heap[g]? := (hg1.block g (Nat.lt_of_lt_of_le hgn (by simp)) (fun e => HUn.out.lent.oki_ne g (HUn.out.lent.cols.1 g e.symm) rfl)).trans (heap_alloc_old wn _ hgn); have d1 := (cell_same (a := ⟨g, i * 5 + 2, none⟩) hx1).trans a2; have f1 := (frozen_same (a := ⟨g, i * 5 + 2, none⟩) hx1).trans (HUn.out.lent.frozen _); have hy1 := (hg1.block wr.heap.size (Nat.lt_of_lt_of_le hzn (by simp)) (fun he => Nat.lt_irrefl _ (Kd.R_lt HU.out.lent.cols wr.heap.size he.symm))).trans (blk_alloc HXn.out _); have d0 := blk_cell (j := 0) (v := .int .i64 t.f4) hy1 rfl))
        all_goals
          have HF := Aside0.mk ((HUn.out.step (below_drew (below_alloc (Below.refl _ _) _))).setC hg1 hr rfl)
          clear hr hg1 hx1 hy1 a2 x0 x1 x2 x3 x4 x5 x6 x7 x8
          go_wp2
          go_ret2
          obtain ⟨rfl, rfl, rfl⟩ : T = _ ∧ id = t.f4 ∧ er = 0 := by have := HI5.out; simp only [Prod.mk.injEq] at this; exact this
          exact ⟨rfl, HF.out.done⟩
      · have hz : decide (0 < (s.f4.length : Int)) = true := decide_eq_true (by omega)
        obtain ⟨a4_, eA4, v0, v1, v2, v3⟩ := at_T73 HCz.out 0 (by omega) (by omega)
        rw [show rd_T73 s.f4 0 = d by rw [← hd]; unfold rd_T73; simp [List.getD, h0]] at v0 v1 v2 v3
        have ead : a4_.add ((0 : Int).toNat * 4) = a4_ := by cases a4_; rfl
        rw [ead] at v0 v1 v2 v3
        subst eA4
        have f5 := blk_frozen HS.out.box 5
        have f6 := blk_frozen HS.out.box 6
        have f7 := blk_frozen HS.out.box 7
        have f8 := blk_frozen HS.out.box 8
        have q5 := blk_cell (j := 5) (v := .int .i64 0) HS.out.box rfl
        have q6 := blk_cell (j := 6) (v := .int .i64 0) HS.out.box rfl
        have q7 := blk_cell (j := 7) (v := .int .u64 0) HS.out.box rfl
        have q8 := blk_cell (j := 8) (v := .string ⟨#[]⟩) HS.out.box rfl
        have h4l : (0 : Int) < (s.f4.length : Int) := by omega
        have HS3 := Aside0.mk (HS.out.put d)
        clear h0 hd
        go_wp2_with fail
        clear f5 f6 f7 f8 q5 q6 q7 q8 v0 v1 v2 v3 x4 HS
        refine (rval_calls d HVd.out _).mono ?_
        rintro e w5 ⟨rfl, hb5⟩
        have HSz := Aside0.mk (HS3.out.step hb5)
        have HX5 := Aside0.mk (blk_below HX.out HSz.out.below)
        have q5 := blk_cell (j := 5) (v := .int .i64 d.f0) HSz.out.box rfl
        have x8 := blk_cell (j := 8) (v := .int .i64 s.f8) HX5.out (by rw [hBX]; rfl)
        have hwz5 : wr.heap.size < w5.heap.size := lt_of_block HSz.out.box
        clear hb5 HS3 HX2 HCz hq3
        by_cases hbad : valB d = false ∨ (d.f0 ≠ 0 ∧ d.f0 ≠ s.f8)
        · have HR := Lib.hid (show (T, id, er) = (t, 0, 7) by rw [HI3.out]; exact if_pos hbad)
          have hbad' : valB d = false ∨ (valB d = true ∧ (d.f0 != 0) = true ∧ (d.f0 != s.f8) = true) := by
            rcases hbad with h | ⟨h1, h2⟩
            · exact .inl h
            · cases hq : valB d
              · exact .inl rfl
              · exact .inr ⟨rfl, by simpa using h1, by simpa using h2⟩
          clear hbad HI3 HVd
          have HUz := Aside0.mk (HU.out.step HSz.out.below)
          rcases hbad' with h | ⟨h, h1, h2⟩
          all_goals
            rw [h]
            clear h
            go_wp2
            go_ret2
            obtain ⟨rfl, rfl, rfl⟩ : T = t ∧ id = 0 ∧ er = 7 := by have := HR.out; simp only [Prod.mk.injEq] at this; exact this
            exact ⟨rfl, HUz.out.done⟩
        have HI4 := Lib.hid (HI3.out.trans (if_neg hbad))
        have hok' : valB d = true ∧ (((d.f0 != 0) = false) ∨ ((d.f0 != 0) = true ∧ (d.f0 != s.f8) = false)) := by
          refine ⟨by cases hq : valB d; exact absurd (.inl hq) hbad; rfl, ?_⟩
          by_cases h0 : d.f0 = 0
          · exact .inl (by simpa using h0)
          · refine .inr ⟨by simpa using h0, ?_⟩
            have : d.f0 = s.f8 := Classical.byContradiction fun h => hbad (.inr ⟨h0, h⟩)
            simpa using this
        obtain ⟨hv, hk2⟩ := hok'
        rw [hv]
        clear hbad HI3 HVd hv
        rcases hk2 with h1 | ⟨h1, h2⟩
        all_goals
          have HUz := Aside0.mk (HU.out.step HSz.out.below)
          have a2 := HUz.out.lent.cell 2 rfl
          have a4 := HUz.out.lent.cell 4 rfl
          by_cases h8 : 8 ≤ t.f2.length
          · have hd8 : decide ((8 : Int) ≤ (t.f2.length : Int)) = true := decide_eq_true (by omega)
            have HR := Lib.hid (show (T, id, er) = (t, 0, 4) by rw [HI4.out]; exact if_pos (.inl h8))
            clear h8
            go_wp2
            go_ret2
            obtain ⟨rfl, rfl, rfl⟩ : T = t ∧ id = 0 ∧ er = 4 := by have := HR.out; simp only [Prod.mk.injEq] at this; exact this
            exact ⟨rfl, HUz.out.done⟩
          have hd8 : decide ((8 : Int) ≤ (t.f2.length : Int)) = false := decide_eq_false (by omega)
          by_cases h6 : 60000 ≤ t.f4
          · have HR := Lib.hid (show (T, id, er) = (t, 0, 4) by rw [HI4.out]; exact if_pos (.inr h6))
            have hd6 : decide (60000 ≤ t.f4) = true := decide_eq_true h6
            clear h8 h6
            go_wp2
            go_ret2
            obtain ⟨rfl, rfl, rfl⟩ : T = t ∧ id = 0 ∧ er = 4 := by have := HR.out; simp only [Prod.mk.injEq] at this; exact this
            exact ⟨rfl, HUz.out.done⟩
          have HI5 := Lib.hid (HI4.out.trans (if_neg (show ¬ (8 ≤ t.f2.length ∨ 60000 ≤ t.f4) by omega)))
          have hd6 : decide (60000 ≤ t.f4) = false := decide_eq_false h6
          have hn0 := HB4.out
          have f4 := HUz.out.lent.frozen (i * 5 + 4)
          have hUn := HUz.out.setN (t.f4 + 1) rfl
          obtain ⟨gc', hgb'⟩ := HUz.out.lent.blk
          have hne : wr.heap.size ≠ g := by omega
          have hxn := blk_far HSz.out.box (p := ⟨g, i * 5 + 4, none⟩) hne (.int .i64 (t.f4 + 1))
          have hzn : wr.heap.size < (w5.setCell ⟨g, i * 5 + 4, none⟩ (.int .i64 (t.f4 + 1))).heap.size := lt_of_block hxn
          have hgn : g < (w5.setCell ⟨g, i * 5 + 4, none⟩ (.int .i64 (t.f4 + 1))).heap.size := by have := lt_of_block hgb'; simpa [World.setCell] using this
          clear h8 h6
          go_wp2_with fail
          clear f4 a2 a4 hd8 hd6 hgb'
          generalize w5.setCell ⟨g, i * 5 + 4, none⟩ (.int .i64 (t.f4 + 1)) = wn at hUn hxn hzn hgn ⊢
          have a2 := hUn.lent.cell 2 rfl
          have x0 := blk_cell (j := 0) (v := .int .i64 t.f4) hxn rfl
          have x1 := blk_cell (j := 1) (v := .string s.f2) hxn rfl
          have x2 := blk_cell (j := 2) (v := .int .i64 s.f8) hxn rfl
          have x3 := blk_cell (j := 3) (v := .int .i64 1) hxn rfl
          have x4 := blk_cell (j := 4) (v := .int .i64 0) hxn rfl
          have x5 := blk_cell (j := 5) (v := .int .i64 d.f0) hxn rfl
          have x6 := blk_cell (j := 6) (v := .int .i64 d.f1) hxn rfl
          have x7 := blk_cell (j := 7) (v := .int .u64 d.f2) hxn rfl
          have x8 := blk_cell (j := 8) (v := .string d.f3) hxn rfl
          have HUn := Aside0.mk hUn
          have HXn := Aside0.mk hxn
          have HBZ := Aside0.mk (Nat.le_trans hUn.base hUn.tch.size)
          clear hUn hxn
          go_region_law
            ((refine step_R k75 (by rfl) (.tmp 102) (.tmp 104) 67 75 (.agg #[(.int .i64 0), (.string ⟨#[]⟩), (.int .i64 0), (.int .i64 0), (.int .i64 0), (.int .i64 0), (.int .i64 0), (.int .u64 0), (.string ⟨#[]⟩)]) 88 (by rfl) Tryd.underlying67 info75 (by rfl) (by decide) (by decide) w0.heap.size (.slice Ac t.f2.length cc) t.f2 (⟨t.f4, s.f2, s.f8, 1, 0, d⟩ : S75) [.int .i64 t.f4, .string s.f2, .int .i64 s.f8, .int .i64 1, .int .i64 0, .int .i64 d.f0, .int .i64 d.f1, .int .u64 d.f2, .string d.f3] oki (fun _ => False) (by rfl) (by repeat (first | exact HUn.out.lent.cols | refine Kd.R_drew ?_ | refine Kd.R_alloc ?_ _)) ⟨wn.heap.size, 0, none⟩ (by rfl) (World.news_of_block (cs := #[_, _, _, _, _, _, _, _, _]) (t := 75) (fr := (0, 0)) (heap_alloc_new wn _)) (k75_mkM _ _ _ (⟨t.f4, s.f2, s.f8, 1, 0, d⟩ : S75)) (fun _ h => h.elim) (fun k hk => HUn.out.lent.fresh k (Nat.le_trans (by simp) hk)) (Nat.le_trans HBZ.out (by simp)) (by omega) ?_; intro A1 c1 w1 hr hg1; have hx1 : w1.heap[g]? = wn.heap[g]? := (hg1.block g (Nat.lt_of_lt_of_le hgn (by simp)) (fun e => HUn.out.lent.oki_ne g (HUn.out.lent.cols.1 g e.symm) rfl)).trans (heap_alloc_old wn _ hgn); have d1 := (cell_same (a := ⟨g, i * 5 + 2, none⟩) hx1).trans a2; have f1 := (frozen_same (a := ⟨g, i * 5 + 2, none⟩) hx1).trans (HUn.out.lent.frozen _); have hy1 := (hg1.block wr.heap.size (Nat.lt_of_lt_of_le hzn (by simp)) (fun he => Nat.lt_irrefl _ (Kd.R_lt HU.out.lent.cols wr.heap.size he.symm))).trans (blk_alloc HXn.out _); have d0 := blk_cell (j := 0) (v := .int .i64 t.f4) hy1 rfl))
          all_goals
            have HF := Aside0.mk ((HUn.out.step (below_drew (below_alloc (Below.refl _ _) _))).setC hg1 hr rfl)
            clear hr hg1 hx1 hy1 a2 x0 x1 x2 x3 x4 x5 x6 x7 x8
            go_wp2
            go_ret2
            obtain ⟨rfl, rfl, rfl⟩ : T = _ ∧ id = t.f4 ∧ er = 0 := by have := HI5.out; simp only [Prod.mk.injEq] at this; exact this
            exact ⟨rfl, HF.out.done⟩
end Go.Proofs.YtjgomlcdmpcoaaaDoor.H
namespace Go.Proofs.YtjgomlcdmpcoaaaDoor.H
open Go.RowKit Go.Proofs.YtjgomlcdmpcoaaaDoorW.PrintWords Go.Proofs.YtjgomlcdmpcoaaaDoorW.PrintLast Go.Proofs.YtjgomlcdmpcoaaaDoorW.PrintMore
open Go.Proofs.YtjgomlcdmpcoaaaDoor.D Go.Proofs.YtjgomlcdmpcoaaaDoor
set_option linter.unusedVariables false
set_option linter.unusedSimpArgs false
set_option maxHeartbeats 4000000 in
set_option maxRecDepth 100000 in
theorem idx70 (g : Nat) (lb : Array Value) (eg : ∀ args w, (callFunc g args).run Tryd.prog w = .ok (.enter g args) w) (p : S70 → Bool) (A : Option Addr) (c : Nat) (xs : List S70) (w : World)
    (hA : Kd.C k70 w A xs.length xs) (hp : Pred k70 g lb p w) :
    Calls Tryd.prog 105 #[.slice A xs.length c, .func (.func g) #[] lb] w fun e w' => e = .returned (.int .i64 (idxL p xs 0)) ∧ Below w.heap.size w w' := by
  have HA := Lib.hid hA
  have hbig := hA.2.1
  have HP := Lib.hid hp
  have HE := Lib.hid eg
  clear hA hp eg
  go_enter Tryd.func105, Tryd.ntmps105
  go_wp2
  go_loopg [5, 8] xs.length (fun gg _ s8 wr => ∃ kk : Nat, kk ≤ xs.length ∧ xs.length - kk ≤ gg ∧ s8 = .int .i64 kk ∧ Aside0 (Below w.heap.size w wr) ∧ Aside0 (idxL p xs 0 = idxL p (xs.drop kk) kk))
  case atStart => exact ⟨0, Nat.zero_le _, by omega, rfl, ⟨Below.refl _ w⟩, ⟨rfl⟩⟩
  case round =>
    obtain ⟨kk, hkk, hg, rfl, BW, hI⟩ := hrel
    by_cases hlt : kk < xs.length
    · have hltz : (kk : Int) < (xs.length : Int) := by omega
      have hd : xs.drop kk = xs[kk] :: xs.drop (kk + 1) := List.drop_eq_getElem_cons hlt
      have hC := Kd.C_below HA.out BW.out
      obtain ⟨ad, A2, c2, A3, c3, eA, h0, h1, h2, h3, h4, l2, g2, l3, g3⟩ := at_T70 hC (kk : Int) (by omega) (by omega)
      have hx : rd_T70 xs (kk : Int) = xs[kk] := by unfold rd_T70; simp [List.getD, hlt]
      rw [hx] at h0 h1 h2 h3 h4 l2 g2 l3 g3
      simp only [Int.toNat_natCast] at h0 h1 h2 h3 h4
      have hcall := HP.out wr xs[kk] _ BW.out (k70_mk _ _ l2 g2 l3 g3)
      generalize xs[kk] = x at hd hcall h0 h1 h2 h3 h4 l2 g2 l3 g3
      rw [hd] at hI
      cases eA
      clear g2 g3
      have HI := Lib.hid hI
      clear hI hd hx
      cases hq : p x with
      | true =>
        rw [hq] at hcall
        have HQ := Lib.hid hq
        clear hq
        have HC := Lib.hid hcall
        clear hcall
        go_wp2_with fail
        rw [HE.out, Oper.upon_enter]
        refine HC.out.mono ?_
        rintro e w' ⟨rfl, hb'⟩
        go_wp2
        go_ret
        refine ⟨?_, hb'⟩
        rw [HI.out.out]
        simp [idxL, HQ.out]
      | false =>
        rw [hq] at hcall
        have HQ := Lib.hid hq
        clear hq
        have HC := Lib.hid hcall
        clear hcall
        go_wp2_with fail
        rw [HE.out, Oper.upon_enter]
        refine HC.out.mono ?_
        rintro e w' ⟨rfl, hb'⟩
        go_wp2
        go_roundg (xs.length - (kk + 1))
        case measure => omega
        case rel =>
          refine ⟨kk + 1, by omega, by omega, by go_num, ⟨hb'⟩, ⟨?_⟩⟩
          rw [HI.out.out]
          simp [idxL, HQ.out]
    · have hltz : ¬ (kk : Int) < (xs.length : Int) := by omega
      have hd : xs.drop kk = [] := List.drop_eq_nil_of_le (by omega)
      rw [hd] at hI
      have HI := Lib.hid hI
      clear hI hd
      go_wp2
      go_ret
      refine ⟨?_, BW.out⟩
      rw [HI.out.out]
      rfl
set_option maxHeartbeats 4000000 in
set_option maxRecDepth 100000 in
theorem idx98 (g : Nat) (lb : Array Value) (eg : ∀ args w, (callFunc g args).run Tryd.prog w = .ok (.enter g args) w) (p : S98 → Bool) (A : Option Addr) (c : Nat) (xs : List S98) (w : World)
    (hA : Kd.C k98 w A xs.length xs) (hp : Pred k98 g lb p w) :
    Calls Tryd.prog 168 #[.slice A xs.length c, .func (.func g) #[] lb] w fun e w' => e = .returned (.int .i64 (idxL p xs 0)) ∧ Below w.heap.size w w' := by
  have HA := Lib.hid hA
  have hbig := hA.2.1
  have HP := Lib.hid hp
  have HE := Lib.hid eg
  clear hA hp eg
  go_enter Tryd.func168, Tryd.ntmps168
  go_wp2
  go_loopg [5, 8] xs.length (fun gg _ s8 wr => ∃ kk : Nat, kk ≤ xs.length ∧ xs.length - kk ≤ gg ∧ s8 = .int .i64 kk ∧ Aside0 (Below w.heap.size w wr) ∧ Aside0 (idxL p xs 0 = idxL p (xs.drop kk) kk))
  case atStart => exact ⟨0, Nat.zero_le _, by omega, rfl, ⟨Below.refl _ w⟩, ⟨rfl⟩⟩
  case round =>
    obtain ⟨kk, hkk, hg, rfl, BW, hI⟩ := hrel
    by_cases hlt : kk < xs.length
    · have hltz : (kk : Int) < (xs.length : Int) := by omega
      have hd : xs.drop kk = xs[kk] :: xs.drop (kk + 1) := List.drop_eq_getElem_cons hlt
      have hC := Kd.C_below HA.out BW.out
      obtain ⟨ad, A2, c2, eA, h0, h1, h2, h3, h4, l2, g2⟩ := at_T98 hC (kk : Int) (by omega) (by omega)
      have hx : rd_T98 xs (kk : Int) = xs[kk] := by unfold rd_T98; simp [List.getD, hlt]
      rw [hx] at h0 h1 h2 h3 h4 l2 g2
      simp only [Int.toNat_natCast] at h0 h1 h2 h3 h4
      have hcall := HP.out wr xs[kk] _ BW.out (k98_mk _ _ l2 g2)
      generalize xs[kk] = x at hd hcall h0 h1 h2 h3 h4 l2 g2
      rw [hd] at hI
      cases eA
      clear g2
      have HI := Lib.hid hI
      clear hI hd hx
      cases hq : p x with
      | true =>
        rw [hq] at hcall
        have HQ := Lib.hid hq
        clear hq
        have HC := Lib.hid hcall
        clear hcall
        go_wp2_with fail
        rw [HE.out, Oper.upon_enter]
        refine HC.out.mono ?_
        rintro e w' ⟨rfl, hb'⟩
        go_wp2
        go_ret
        refine ⟨?_, hb'⟩
        rw [HI.out.out]
        simp [idxL, HQ.out]
      | false =>
        rw [hq] at hcall
        have HQ := Lib.hid hq
        clear hq
        have HC := Lib.hid hcall
        clear hcall
        go_wp2_with fail
        rw [HE.out, Oper.upon_enter]
        refine HC.out.mono ?_
        rintro e w' ⟨rfl, hb'⟩
        go_wp2
        go_roundg (xs.length - (kk + 1))
        case measure => omega
        case rel =>
          refine ⟨kk + 1, by omega, by omega, by go_num, ⟨hb'⟩, ⟨?_⟩⟩
          rw [HI.out.out]
          simp [idxL, HQ.out]
    · have hltz : ¬ (kk : Int) < (xs.length : Int) := by omega
      have hd : xs.drop kk = [] := List.drop_eq_nil_of_le (by omega)
      rw [hd] at hI
      have HI := Lib.hid hI
      clear hI hd
      go_wp2
      go_ret
      refine ⟨?_, BW.out⟩
      rw [HI.out.out]
      rfl
set_option maxHeartbeats 1000000 in
theorem pred149 (id : Int) (B : Nat) (w : World) (hB : B < w.heap.size) (hc : w.cell? ⟨B, 0, none⟩ = some (.int .i64 id)) : Pred k70 149 #[.pointer (some ⟨B, 0, none⟩)] (fun c => c.f0 == id) w := by
  intro W x cs hb hK
  obtain ⟨A2, c2, A3, c3, rfl, l2, g2, l3, g3⟩ := k70_open hK
  have hc' := (hb.cell (p := ⟨B, 0, none⟩) hB).trans hc
  have hl : B < W.heap.size := Nat.lt_of_lt_of_le hB hb.size
  show Calls Tryd.prog 149 #[.agg #[.int .i64 x.f0, .string x.f1, .slice A2 x.f2.length c2, .slice A3 x.f3.length c3, .int .i64 x.f4], .pointer (some ⟨B, 0, none⟩)] W _
  have HB := Aside0.mk hb
  clear hb hc hK
  go_enter Tryd.func149, Tryd.ntmps149
  go_wp2
  go_ret
  exact ⟨rfl, below_then HB.out HB.out.size (below_alloc (Below.refl _ _) _)⟩
set_option maxHeartbeats 1000000 in
theorem pred174 (id : Int) (B : Nat) (w : World) (hB : B < w.heap.size) (hc : w.cell? ⟨B, 0, none⟩ = some (.int .i64 id)) : Pred k98 174 #[.pointer (some ⟨B, 0, none⟩)] (fun c => c.f0 == id) w := by
  intro W x cs hb hK
  obtain ⟨A2, c2, rfl, l2, g2⟩ := k98_open hK
  have hc' := (hb.cell (p := ⟨B, 0, none⟩) hB).trans hc
  have hl : B < W.heap.size := Nat.lt_of_lt_of_le hB hb.size
  show Calls Tryd.prog 174 #[.agg #[.int .i64 x.f0, .string x.f1, .slice A2 x.f2.length c2, .bool x.f3, .int .i64 x.f4], .pointer (some ⟨B, 0, none⟩)] W _
  have HB := Aside0.mk hb
  clear hb hc hK
  go_enter Tryd.func174, Tryd.ntmps174
  go_wp2
  go_ret
  exact ⟨rfl, below_then HB.out HB.out.size (below_alloc (Below.refl _ _) _)⟩
set_option maxHeartbeats 1000000 in
theorem pred180 (id : Int) (B : Nat) (w : World) (hB : B < w.heap.size) (hc : w.cell? ⟨B, 0, none⟩ = some (.int .i64 id)) : Pred k75 180 #[.pointer (some ⟨B, 0, none⟩)] (fun c => c.f0 == id) w := by
  intro W x cs hb hK
  obtain rfl := k75_open hK
  have hc' := (hb.cell (p := ⟨B, 0, none⟩) hB).trans hc
  have hl : B < W.heap.size := Nat.lt_of_lt_of_le hB hb.size
  show Calls Tryd.prog 180 #[.agg #[.int .i64 x.f0, .string x.f1, .int .i64 x.f2, .int .i64 x.f3, .int .i64 x.f4, .int .i64 x.f5.f0, .int .i64 x.f5.f1, .int .u64 x.f5.f2, .string x.f5.f3], .pointer (some ⟨B, 0, none⟩)] W _
  have HB := Aside0.mk hb
  clear hb hc hK
  go_enter Tryd.func180, Tryd.ntmps180
  go_wp2
  go_ret
  exact ⟨rfl, below_then HB.out HB.out.size (below_alloc (Below.refl _ _) _)⟩
theorem idxL_same {α : Type} (p q : α → Bool) (h : ∀ x, p x = q x) : ∀ (l : List α) (i : Nat), idxL p l i = idxL q l i
  | [], i => rfl
  | x :: l, i => by rw [idxL_cons, idxL_cons, h x, idxL_same p q h l (i + 1)]
end Go.Proofs.YtjgomlcdmpcoaaaDoor.H
namespace Go.Proofs.YtjgomlcdmpcoaaaDoor.H
open Go.RowKit Go.Proofs.YtjgomlcdmpcoaaaDoorW.PrintWords Go.Proofs.YtjgomlcdmpcoaaaDoorW.PrintLast Go.Proofs.YtjgomlcdmpcoaaaDoorW.PrintMore
open Go.Proofs.YtjgomlcdmpcoaaaDoor.D Go.Proofs.YtjgomlcdmpcoaaaDoor
set_option linter.unusedVariables false
set_option linter.unusedSimpArgs false
theorem run_put {w : World} {mty kt et : TypeId} {r clock : Nat} {es : Array MapEntry} (n : Int) (val : Value) (hm : Tryd.prog.underlying mty = some (.map kt et)) (hk : Tryd.prog.underlying kt = some (.int .i64)) (hb : w.heap[r]? = some (.map es clock))
    (hf : Instr.findNow (.int .i64) (.int .i64 n) es.toList 0 = some none) :
    ∃ w', (Instr.mapUpdate mty (.map (some r)) (.int .i64 n) val).run Tryd.prog w = .ok () w' ∧ w'.heap[r]? = some (.map (es.push { key := .int .i64 n, val := val, born := clock }) (clock + 1)) ∧ w.grownBy w' (some r) := by
  have hc : (Instr.checkKey false 10000 kt (.int .i64 n)).run Tryd.prog w = .ok () w := MapKept.run_checkKey (k := .int .i64 n) hk (by simp [MapKept.IsKey]) false 9999
  have hr : r < w.heap.size := (Array.getElem?_eq_some_iff.1 hb).1
  refine ⟨{ w with heap := w.heap.setIfInBounds r (.map (es.push { key := .int .i64 n, val := val, born := clock }) (clock + 1)) }, ?_, ?_, rfl, rfl, rfl, by simp, fun k hk hne => ?_⟩
  · simp [Instr.mapUpdate, run_underlying hm, MapKept.run_getObj_map hb, hc, MapKept.run_findKey hk hf, MapKept.run_setObj_map _ hb, Result.andThen]
  · simp [hr]
  · have : r ≠ k := fun e => hne (by rw [e])
    simp [this]
theorem run_look {w : World} {mty kt et : TypeId} {r clock i : Nat} {es : Array MapEntry} {n : Int} {val : Value} (hm : Tryd.prog.underlying mty = some (.map kt et)) (hk : Tryd.prog.underlying kt = some (.int .i64)) (hb : w.heap[r]? = some (.map es clock)) (he : es.isEmpty = false)
    (hf : Instr.findNow (.int .i64) (.int .i64 n) es.toList 0 = some (some (i, val))) : (Instr.lookup mty (.map (some r)) (.int .i64 n) false).run Tryd.prog w = .ok val w := by
  have hc : (Instr.checkKey false 10000 kt (.int .i64 n)).run Tryd.prog w = .ok () w := MapKept.run_checkKey (k := .int .i64 n) hk (by simp [MapKept.IsKey]) false 9999
  simp [Instr.lookup, run_underlying hm, MapKept.run_getObj_map hb, he, hc, MapKept.run_findKey hk hf, Result.andThen]
theorem run_miss {w : World} {mty kt et : TypeId} {r clock : Nat} {es : Array MapEntry} {n : Int} {val : Value} (hm : Tryd.prog.underlying mty = some (.map kt et)) (hk : Tryd.prog.underlying kt = some (.int .i64)) (hb : w.heap[r]? = some (.map es clock)) (he : es.isEmpty = false)
    (hf : Instr.findNow (.int .i64) (.int .i64 n) es.toList 0 = some none) (hz : (zeroValue et).run Tryd.prog w = .ok val w) : (Instr.lookup mty (.map (some r)) (.int .i64 n) false).run Tryd.prog w = .ok val w := by
  have hc : (Instr.checkKey false 10000 kt (.int .i64 n)).run Tryd.prog w = .ok () w := MapKept.run_checkKey (k := .int .i64 n) hk (by simp [MapKept.IsKey]) false 9999
  simp [Instr.lookup, run_underlying hm, MapKept.run_getObj_map hb, he, hc, MapKept.run_findKey hk hf, hz, Result.andThen]
def ent (n : Int) (f : Nat) (b : Nat) : MapEntry := { key := .int .i64 n, val := .func (.func f) #[] #[], born := b }
def findsM : Array MapEntry := #[ent 6 146 0, ent 7 146 1, ent 8 147 2, ent 9 147 3, ent 10 148 4, ent 11 148 5]
theorem zero176 (w : World) : (zeroValue 176).run Tryd.prog w = .ok .nilFunc w := by kernel_rfl
theorem finds_made (W : World) (r : Nat) (h : W.heap[r]? = some (.map #[] 0)) :
    ∃ W1 W2 W3 W4 W5 W6 : World, (Instr.mapUpdate 177 (.map (some r)) (.int .i64 6) (.func (.func 146) #[] #[])).run Tryd.prog W = .ok () W1 ∧ (Instr.mapUpdate 177 (.map (some r)) (.int .i64 7) (.func (.func 146) #[] #[])).run Tryd.prog W1 = .ok () W2 ∧
      (Instr.mapUpdate 177 (.map (some r)) (.int .i64 8) (.func (.func 147) #[] #[])).run Tryd.prog W2 = .ok () W3 ∧ (Instr.mapUpdate 177 (.map (some r)) (.int .i64 9) (.func (.func 147) #[] #[])).run Tryd.prog W3 = .ok () W4 ∧
      (Instr.mapUpdate 177 (.map (some r)) (.int .i64 10) (.func (.func 148) #[] #[])).run Tryd.prog W4 = .ok () W5 ∧ (Instr.mapUpdate 177 (.map (some r)) (.int .i64 11) (.func (.func 148) #[] #[])).run Tryd.prog W5 = .ok () W6 ∧
      W6.heap[r]? = some (.map findsM 6) ∧ W.grownBy W6 (some r) := by
  obtain ⟨W1, e1, h1, g1⟩ := run_put 6 (.func (.func 146) #[] #[]) Tryd.underlying177 Tryd.underlying3 h rfl
  obtain ⟨W2, e2, h2, g2⟩ := run_put 7 (.func (.func 146) #[] #[]) Tryd.underlying177 Tryd.underlying3 h1 rfl
  obtain ⟨W3, e3, h3, g3⟩ := run_put 8 (.func (.func 147) #[] #[]) Tryd.underlying177 Tryd.underlying3 h2 rfl
  obtain ⟨W4, e4, h4, g4⟩ := run_put 9 (.func (.func 147) #[] #[]) Tryd.underlying177 Tryd.underlying3 h3 rfl
  obtain ⟨W5, e5, h5, g5⟩ := run_put 10 (.func (.func 148) #[] #[]) Tryd.underlying177 Tryd.underlying3 h4 rfl
  obtain ⟨W6, e6, h6, g6⟩ := run_put 11 (.func (.func 148) #[] #[]) Tryd.underlying177 Tryd.underlying3 h5 rfl
  exact ⟨W1, W2, W3, W4, W5, W6, e1, e2, e3, e4, e5, e6, h6, ((((g1.trans g2).trans g3).trans g4).trans g5).trans g6⟩
def finder (kind : Int) : Value := if kind = 6 ∨ kind = 7 then .func (.func 146) #[] #[] else if kind = 8 ∨ kind = 9 then .func (.func 147) #[] #[] else if kind = 10 ∨ kind = 11 then .func (.func 148) #[] #[] else .nilFunc
theorem finds_look {W : World} {r : Nat} (h : W.heap[r]? = some (.map findsM 6)) (kind : Int) : (Instr.lookup 177 (.map (some r)) (.int .i64 kind) false).run Tryd.prog W = .ok (finder kind) W := by
  by_cases h6 : kind = 6
  · subst h6; exact run_look (i := 0) Tryd.underlying177 Tryd.underlying3 h rfl rfl
  by_cases h7 : kind = 7
  · subst h7; exact run_look (i := 1) Tryd.underlying177 Tryd.underlying3 h rfl rfl
  by_cases h8 : kind = 8
  · subst h8; exact run_look (i := 2) Tryd.underlying177 Tryd.underlying3 h rfl rfl
  by_cases h9 : kind = 9
  · subst h9; exact run_look (i := 3) Tryd.underlying177 Tryd.underlying3 h rfl rfl
  by_cases h10 : kind = 10
  · subst h10; exact run_look (i := 4) Tryd.underlying177 Tryd.underlying3 h rfl rfl
  by_cases h11 : kind = 11
  · subst h11; exact run_look (i := 5) Tryd.underlying177 Tryd.underlying3 h rfl rfl
  have hf : finder kind = .nilFunc := by unfold finder; rw [if_neg (by omega), if_neg (by omega), if_neg (by omega)]
  rw [hf]
  refine run_miss Tryd.underlying177 Tryd.underlying3 h rfl ?_ (zero176 W)
  have b6 : (kind == 6) = false := by simpa using h6
  have b7 : (kind == 7) = false := by simpa using h7
  have b8 : (kind == 8) = false := by simpa using h8
  have b9 : (kind == 9) = false := by simpa using h9
  have b10 : (kind == 10) = false := by simpa using h10
  have b11 : (kind == 11) = false := by simpa using h11
  simp [findsM, ent, Instr.findNow, Instr.sameNow, b6, b7, b8, b9, b10, b11]
end Go.Proofs.YtjgomlcdmpcoaaaDoor.H
