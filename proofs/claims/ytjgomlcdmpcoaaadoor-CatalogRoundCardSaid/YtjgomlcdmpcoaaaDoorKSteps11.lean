/- Own texts of this session, packed by its program wip/pp/pack.py: lemmas and walks of functions. -/
import Derived.RegionTactic
import Derived.BigRegion
import Derived.Test.YtjgomlcdmpcoaaaDoorKSteps5
import Derived.Test.YtjgomlcdmpcoaaaDoorKSteps7
import Derived.Test.YtjgomlcdmpcoaaaDoorKSteps9
namespace Go.Proofs.YtjgomlcdmpcoaaaDoor.H
open Go.RowKit Go.Proofs.YtjgomlcdmpcoaaaDoorW.PrintWords Go.Proofs.YtjgomlcdmpcoaaaDoorW.PrintLast Go.Proofs.YtjgomlcdmpcoaaaDoorW.PrintMore
open Go.Proofs.YtjgomlcdmpcoaaaDoor.D Go.Proofs.YtjgomlcdmpcoaaaDoor
set_option linter.unusedVariables false
set_option linter.unusedSimpArgs false
section
variable {α : Type} {d : Kd α} {e : TypeId} {W : World} {base n cap g : Nat} {ok : Nat → Prop} {xs : List α}
theorem rowsM (h : d.R e W base ok (.slice (some ⟨g, 0, none⟩) n cap) xs) : ReadsRow (d.M W base (fun k => ok k ∧ k ≠ g)) d.sz W (some ⟨g, 0, none⟩) n xs := by
  obtain ⟨hn, hnc, hC⟩ := Kd.R_reads' h
  subst hn
  refine ⟨hC.1, hC.2.1, fun _ => ⟨⟨g, 0, none⟩, rfl, fun j p hj => ?_⟩⟩
  have hjl : j < xs.length := (List.getElem?_eq_some_iff.1 hj).1
  obtain ⟨c, h1, h2, h3, -⟩ := Kd.R_elem h p (j : Int) (by omega) (by omega)
  rw [show xs.getD (j : Int).toNat p = p by simp [List.getD, hj]] at h2
  exact ⟨c, h1, h2, fun i u hu => by rw [add_plain]; exact h3 i u hu⟩
theorem rows_take {R : α → List Value → Prop} {size m : Nat} {A : Option Addr} (h : ReadsRow R size W A n xs) (hm : m ≤ n) : ReadsRow R size W A m (xs.take m) := by
  refine ⟨by rw [List.length_take, h.1]; omega, by have := h.2.1; omega, fun hp => ?_⟩
  obtain ⟨ad, e, hc⟩ := h.2.2 (by omega)
  refine ⟨ad, e, fun j p hj => hc j p ?_⟩
  rw [List.getElem?_take] at hj
  split at hj
  · exact hj
  · cases hj
theorem rows_drop {R : α → List Value → Prop} {size m c : Nat} {A : Option Addr} (h : ReadsRow R size W A n xs) (hm : m ≤ n) (hc : n ≤ c) : ReadsRow R size W (if c = m then A else A.map (·.add (m * size))) (n - m) (xs.drop m) := by
  refine ⟨by rw [List.length_drop, h.1], by have := h.2.1; omega, fun hp => ?_⟩
  obtain ⟨ad, rfl, hcell⟩ := h.2.2 (by omega)
  rw [if_neg (by omega)]
  refine ⟨ad.add (m * size), rfl, fun j p hj => ?_⟩
  rw [List.getElem?_drop] at hj
  obtain ⟨cs, h1, h2, h3⟩ := hcell (m + j) p hj
  refine ⟨cs, h1, h2, fun i u hu => ?_⟩
  rw [Go.Proofs.YtjgomlcdmpcoaaaDoorW.PrintWords.add_add, show m * size + (j * size + i) = (m + j) * size + i by rw [Nat.add_mul]; omega]
  exact h3 i u hu
end
theorem erase_set {α : Type} (l : List α) (k : Nat) (x : α) : (l.set k x).take k ++ (l.set k x).drop (k + 1) = l.eraseIdx k := by
  rw [List.eraseIdx_eq_take_drop_succ, List.take_set_of_le (Nat.le_refl k), List.drop_set_of_lt (Nat.lt_succ_self k)]
set_option maxRecDepth 100000 in
set_option maxHeartbeats 4000000 in
theorem turnX_at (kind : Int) (hkd : kind = 6 ∨ kind = 7) (elem by_ : Int) (hby : by_ = 1 ∨ by_ = -1) : TurnAt kind elem by_ := by
  intro w0 W g n cap ts i oki t cv iv hB hL ht he0 he4
  obtain ⟨m2, m3, m4, m5⟩ := tableB_lens ht
  obtain ⟨Ac, cc, hcv, lcc, hCc⟩ := Kd.R_reads hL.cols
  obtain ⟨Ai, ci, hiv, lci, hCi⟩ := Kd.R_reads hL.inds
  subst hcv hiv
  have hix := idxL_at (xId elem) t.f3
  have hel : elemI t kind elem = if 0 ≤ idxL (xId elem) t.f3 0 then (rd_T98 t.f3 (idxL (xId elem) t.f3 0)).f4 else -1 := by unfold elemI; rw [if_pos hkd]
  obtain ⟨ix, hixx⟩ : ∃ ix, idxL (xId elem) t.f3 0 = ix := ⟨_, rfl⟩
  have HT := Lib.hid (rindex_calls t (by omega) elem Ac cc Ai ci W lcc hCc lci hCi)
  have hR : turnP t kind elem by_ = turnI t (idxL (xId elem) t.f3 0).toNat (elemI t kind elem + by_) := by unfold turnP; rw [if_pos hkd]
  rw [hR]
  rw [hixx] at hix hel HT ⊢
  rcases hix with rfl | ⟨k, hk, rfl, -⟩
  · rw [hel, if_neg (by omega)] at he0; omega
  rw [if_pos (by omega), rd98 _ _ hk] at hel
  obtain ⟨st, hst⟩ : ∃ st, elemI t kind elem = st := ⟨_, rfl⟩
  rw [hst] at he0 he4 hel ⊢
  have HST := Lib.hid hel
  obtain ⟨gi, ci', hgi, -⟩ := Kd.R_form hL.inds (by omega)
  obtain rfl : Ai = some ⟨gi, 0, none⟩ := by injection hgi
  clear hgi
  have HU := Aside0.mk (⟨hL, Tch.refl _ _, hB.size⟩ : UpdSt w0 W W g n cap ts i oki t (.slice Ac t.f2.length cc) (.slice (some ⟨gi, 0, none⟩) t.f3.length ci))
  have HB := Aside0.mk hB
  have a0 := hL.cell 0 rfl
  have a1 := hL.cell 1 rfl
  have a2 := hL.cell 2 rfl
  have a3 := hL.cell 3 rfl
  have a4 := hL.cell 4 rfl
  rw [Nat.add_zero] at a0
  have hkl : (k : Int) < (t.f3.length : Int) := by omega
  rw [Int.toNat_natCast]
  clear hB hL ht hR hixx hst hel hCc hCi m5
  have hcase : (by_ = -1 ∧ st = 1) ∨ (st + by_ ≠ 0 ∧ -1 ≤ st + by_ ∧ st + by_ ≤ 5) := by omega
  rcases hcase with ⟨rfl, rfl⟩ | ⟨hne0, hb0, hb5⟩
  · have hRR := Lib.hid (show turnI t k (1 + -1) = ⟨t.f0, t.f1, t.f2, t.f3.eraseIdx k, t.f4⟩ by unfold turnI; rw [if_pos (by decide)])
    obtain ⟨T, hT⟩ : ∃ T, turnI t k (1 + -1) = T := ⟨_, rfl⟩
    rw [hT] at hRR
    rw [hT]
    clear hT
    rcases hkd with rfl | rfl
    all_goals
      go_enter Tryd.func69, Tryd.ntmps69
      go_wp2_with fail
      refine HT.out.mono ?_
      rintro e w1 ⟨rfl, hb1⟩
      have HU1 := Aside0.mk (HU.out.step hb1)
      have b3 := HU1.out.lent.cell 3 rfl
      obtain ⟨cz, hcl, hM, hcc, hfr⟩ := Kd.R_elem HU1.out.lent.inds z98 (k : Int) (by omega) (by omega)
      rw [show t.f3.getD (k : Int).toNat z98 = t.f3[k] by simp [List.getD, hk]] at hM
      obtain ⟨v2, rfl, -⟩ := k98_openM hM
      have e4 : w1.cell? ⟨gi, k * 5 + 4, none⟩ = some (.int .i64 t.f3[k].f4) := hcc 4 _ rfl
      have f4 : w1.frozen? ⟨gi, k * 5 + 4, none⟩ = false := hfr 4
      rw [← HST.out] at e4
      have HF := Aside0.mk (HU1.out.putI k hk (0) rfl)
      have hne : g ≠ gi := fun e => HU1.out.lent.oki_ne gi (HU1.out.lent.inds.1 gi (by simp [Value.ownBlock])) e.symm
      have hne' : gi ≠ g := Ne.symm hne
      have hk0 : (0 : Int) ≤ (k : Int) := by omega
      clear hcl hM hcc hfr hb1 a0 a1 a2 a3 a4 HT
      go_wp2_with fail
      go_region
      all_goals
        have HFd := Aside0.mk (HF.out.step (below_drew (Below.refl _ _)))
        clear b3 e4 f4 HU1 HU HF
        generalize (w1.setCell ⟨gi, k * 5 + 4, none⟩ (.int .i64 0)).drew = wf at HFd ⊢
        have b3 := HFd.out.lent.cell 3 rfl
        obtain ⟨cz, hcl, hM, hcc, hfr⟩ := Kd.R_elem HFd.out.lent.inds z98 (k : Int) (by omega) (by omega)
        rw [show (t.f3.set k ⟨t.f3[k].f0, t.f3[k].f1, t.f3[k].f2, t.f3[k].f3, 0⟩).getD (k : Int).toNat z98 = ⟨t.f3[k].f0, t.f3[k].f1, t.f3[k].f2, t.f3[k].f3, 0⟩ by simp [List.getD, hk]] at hM
        obtain ⟨v2, rfl, -⟩ := k98_openM hM
        have e4 : wf.cell? ⟨gi, k * 5 + 4, none⟩ = some (.int .i64 0) := hcc 4 _ rfl
        clear hcl hM hcc hfr
        have HRb := Aside0.mk (rowsM (Kd.R_bound HFd.out.lent.inds))
        have hlc := (Kd.R_reads' HFd.out.lent.inds).2.1
        have hlm := (Kd.R_reads' HFd.out.lent.inds).1
        rw [List.length_set] at hlm
        have HBW := Aside0.mk (HB.out.trans HFd.out.tch.below)
        have HBZ := Aside0.mk (Nat.le_trans HFd.out.base HFd.out.tch.size)
        obtain ⟨i0, hi0, _, hsz, _⟩ := info_parts info98
        have hcut1 : ∀ X : World, (Instr.slice 68 (.slice (some ⟨gi, 0, none⟩) t.f3.length ci) none (some (.int .i64 (k : Int))) none).run Tryd.prog X = .ok (.slice (some ⟨gi, 0, none⟩) k ci) X := cut_to (P := Tryd.prog) 68 98 .i64 Tryd.underlying68 hi0 (some ⟨gi, 0, none⟩) t.f3.length ci (k : Int) (by omega) (by omega) (by omega)
        obtain ⟨AA, hAA⟩ : ∃ AA : Option Addr, (if ci = k + 1 then (some ⟨gi, 0, none⟩ : Option Addr) else (some ⟨gi, 0, none⟩ : Option Addr).map (·.add ((k + 1) * 5))) = AA := ⟨_, rfl⟩
        have hcut2 : ∀ X : World, (Instr.slice 68 (.slice (some ⟨gi, 0, none⟩) t.f3.length ci) (some (.int .i64 ((k : Int) + 1))) none none).run Tryd.prog X = .ok (.slice AA (t.f3.length - (k + 1)) (ci - (k + 1))) X := by
          intro X
          have h := cut_from (P := Tryd.prog) 68 98 .i64 Tryd.underlying68 hi0 5 hsz (some ⟨gi, 0, none⟩) t.f3.length ci ((k : Int) + 1) (by omega) (by omega) X
          rw [show ((k : Int) + 1).toNat = k + 1 by omega, hAA] at h
          exact h
        clear hi0 hsz
        have HL1 := Lib.hid (show ((t.f3.set k ⟨t.f3[k].f0, t.f3[k].f1, t.f3[k].f2, t.f3[k].f3, 0⟩).take k).length = k by rw [List.length_take, List.length_set]; omega)
        go_wp2_with (first
          | ((with_reducible refine gate_builtin (b := .append) (xs := #[.tmp 70, .tmp 76]) rfl ?_); at_builtin; refine Kd.R_append_rows k98 (w0 := w0) w0.heap.size rfl (.tmp 70) (.tmp 76) 68 98 (.agg #[(.int .i64 0), (.string ⟨#[]⟩), (.slice none 0 0), (.bool false), (.int .i64 0)]) 64 rfl Tryd.underlying68 info98 rfl (by decide) (by omega) (.slice none 0 0) [] ((t.f3.set k ⟨t.f3[k].f0, t.f3[k].f1, t.f3[k].f2, t.f3[k].f3, 0⟩).take k) (some ⟨gi, 0, none⟩) k ci oki _ rfl rfl (Kd.R_nil _ _ _ _ _) (rows_take HRb.out (by omega)) (fun _ _ h => h) (fun j h => ⟨h.1.1, by simp [Value.ownBlock]⟩) (fun j hj => HFd.out.lent.fresh j hj) HBW.out HBZ.out (by simp only [List.length_nil]; omega) ?_; intro v1 w2 ho1 hb1 hg1 hn1; rw [List.nil_append] at ho1; have HBB1 := Aside0.mk (show Below wf.heap.size wf w2 from (Below.refl _ _).grown hg1 (Nat.le_refl _) (fun j hj => by simp [Value.ownBlock] at hj)); obtain ⟨A1, c1, hv1⟩ := Kd.R_slice ho1; rw [HL1.out] at hv1; subst hv1; have HO1 := Aside0.mk ho1; have HB1 := Aside0.mk hb1; have HN1 := Aside0.mk hn1; have HF2 := Aside0.mk (HFd.out.step HBB1.out); have d3 := HF2.out.lent.cell 3 rfl; clear ho1 hb1 hg1 hn1 b3 e4)
          | ((with_reducible refine gate_builtin (b := .append) (xs := #[.tmp 78, .tmp 85]) rfl ?_); at_builtin; refine Kd.R_append_rows k98 (w0 := w0) w0.heap.size rfl (.tmp 78) (.tmp 85) 68 98 (.agg #[(.int .i64 0), (.string ⟨#[]⟩), (.slice none 0 0), (.bool false), (.int .i64 0)]) 64 rfl Tryd.underlying68 info98 rfl (by decide) (by omega) (.slice A1 k c1) ((t.f3.set k ⟨t.f3[k].f0, t.f3[k].f1, t.f3[k].f2, t.f3[k].f3, 0⟩).take k) ((t.f3.set k ⟨t.f3[k].f0, t.f3[k].f1, t.f3[k].f2, t.f3[k].f3, 0⟩).drop (k + 1)) AA (t.f3.length - (k + 1)) (ci - (k + 1)) oki _ rfl rfl HO1.out (hAA ▸ (ReadsRow.imp_ (rows_drop HRb.out (by omega) (by omega)) HBB1.out (fun _ _ hp => k98.M_below hp HBB1.out))) (fun _ _ h => h) (fun j h => ⟨h.1.1, fun e => by rcases HN1.out with q | ⟨b, q, hb⟩; (rw [q] at e; simp [Value.ownBlock] at e); (rw [q] at e; injection e with e; have := h.1.2.2.1; omega)⟩) (fun j hj => HF2.out.lent.fresh j hj) HB1.out (Nat.le_trans HBZ.out HBB1.out.size) (by rw [List.length_take, List.length_set]; omega) ?_; intro v2 w3 ho2 hb2 hg2 hn2; rw [erase_set] at ho2; obtain ⟨A2, c2, hv2⟩ := Kd.R_slice ho2; subst hv2; have HBB2 := Aside0.mk (show Below wf.heap.size wf w3 from HBB1.out.grown hg2 HBB1.out.size (fun j hj => by rcases HN1.out with q | ⟨b, q, hb⟩; (rw [q] at hj; simp [Value.ownBlock] at hj); (rw [q] at hj; injection hj with hj; omega))); have HF3 := Aside0.mk (HFd.out.step HBB2.out); have g3 := HF3.out.lent.cell 3 rfl; have gf := HF3.out.lent.frozen (i * 5 + 3); have HFF := Aside0.mk (HF3.out.setI (World.grownBy.refl w3 _) ho2 rfl); clear ho2 hb2 hg2 hn2 d3))
        go_end0
        rw [hRR.out]
        exact ⟨rfl, HFF.out.done⟩
  · have hRR := Lib.hid (show turnI t k (st + by_) = ⟨t.f0, t.f1, t.f2, t.f3.set k ⟨t.f3[k].f0, t.f3[k].f1, t.f3[k].f2, t.f3[k].f3, st + by_⟩, t.f4⟩ by unfold turnI; rw [if_neg hne0, rd98 _ _ hk])
    obtain ⟨T, hT⟩ : ∃ T, turnI t k (st + by_) = T := ⟨_, rfl⟩
    rw [hT] at hRR
    rw [hT]
    have hq : (st + by_ == 0) = false := by simpa using hne0
    clear hT
    rcases hkd with rfl | rfl
    all_goals
      go_enter Tryd.func69, Tryd.ntmps69
      go_wp2_with fail
      refine HT.out.mono ?_
      rintro e w1 ⟨rfl, hb1⟩
      have HU1 := Aside0.mk (HU.out.step hb1)
      have b3 := HU1.out.lent.cell 3 rfl
      obtain ⟨cz, hcl, hM, hcc, hfr⟩ := Kd.R_elem HU1.out.lent.inds z98 (k : Int) (by omega) (by omega)
      rw [show t.f3.getD (k : Int).toNat z98 = t.f3[k] by simp [List.getD, hk]] at hM
      obtain ⟨v2, rfl, -⟩ := k98_openM hM
      have e4 : w1.cell? ⟨gi, k * 5 + 4, none⟩ = some (.int .i64 t.f3[k].f4) := hcc 4 _ rfl
      have f4 : w1.frozen? ⟨gi, k * 5 + 4, none⟩ = false := hfr 4
      rw [← HST.out] at e4
      have HF := Aside0.mk (HU1.out.putI k hk (st + by_) rfl)
      have hne : g ≠ gi := fun e => HU1.out.lent.oki_ne gi (HU1.out.lent.inds.1 gi (by simp [Value.ownBlock])) e.symm
      have hne' : gi ≠ g := Ne.symm hne
      have hk0 : (0 : Int) ≤ (k : Int) := by omega
      clear hcl hM hcc hfr hb1 a0 a1 a2 a3 a4 HT
      go_wp2_with fail
      go_region
      all_goals
        go_wp2
        go_end0
        rw [hRR.out]
        exact ⟨rfl, (HF.out.step (below_drew (Below.refl _ _))).done⟩
set_option maxRecDepth 100000 in
set_option maxHeartbeats 4000000 in
theorem turnC_at (kind : Int) (hkd : kind = 8 ∨ kind = 9) (elem by_ : Int) (hby : by_ = 1 ∨ by_ = -1) : TurnAt kind elem by_ := by
  have k67 : ¬ (kind = 6 ∨ kind = 7) := by rcases hkd with rfl | rfl <;> decide
  have k89 : 8 ≤ kind ∧ kind ≤ 11 := by rcases hkd with rfl | rfl <;> decide
  have k10 : kind < 10 := by rcases hkd with rfl | rfl <;> decide
  intro w0 W g n cap ts i oki t cv iv hB hL ht he0 he4
  obtain ⟨m2, m3, m4, m5⟩ := tableB_lens ht
  obtain ⟨Ac, cc, hcv, lcc, hCc⟩ := Kd.R_reads hL.cols
  obtain ⟨Ai, ci, hiv, lci, hCi⟩ := Kd.R_reads hL.inds
  subst hcv hiv
  have hix := idxL_at (cId elem) t.f2
  have hel : elemI t kind elem = if 0 ≤ idxL (cId elem) t.f2 0 then (rd_T75 t.f2 (idxL (cId elem) t.f2 0)).f3 else -1 := by unfold elemI; rw [if_neg k67, if_pos k89, if_pos k10]
  obtain ⟨ix, hixx⟩ : ∃ ix, idxL (cId elem) t.f2 0 = ix := ⟨_, rfl⟩
  have HT := Lib.hid (rcolumn_calls t (by omega) elem Ac cc Ai ci W lcc hCc lci hCi)
  have hR : turnP t kind elem by_ = turnC t (idxL (cId elem) t.f2 0).toNat (elemI t kind elem + by_) := by unfold turnP; rw [if_neg k67, if_pos hkd]
  rw [hR]
  rw [hixx] at hix hel HT ⊢
  rcases hix with rfl | ⟨k, hk, rfl, -⟩
  · rw [hel, if_neg (by omega)] at he0; omega
  rw [if_pos (by omega), rd75 _ _ hk] at hel
  obtain ⟨st, hst⟩ : ∃ st, elemI t kind elem = st := ⟨_, rfl⟩
  rw [hst] at he0 he4 hel ⊢
  have HST := Lib.hid hel
  obtain ⟨gi, ci', hgi, -⟩ := Kd.R_form hL.cols (by omega)
  obtain rfl : Ac = some ⟨gi, 0, none⟩ := by injection hgi
  clear hgi
  have HU := Aside0.mk (⟨hL, Tch.refl _ _, hB.size⟩ : UpdSt w0 W W g n cap ts i oki t (.slice (some ⟨gi, 0, none⟩) t.f2.length cc) (.slice Ai t.f3.length ci))
  have HB := Aside0.mk hB
  have a0 := hL.cell 0 rfl
  have a1 := hL.cell 1 rfl
  have a2 := hL.cell 2 rfl
  have a3 := hL.cell 3 rfl
  have a4 := hL.cell 4 rfl
  rw [Nat.add_zero] at a0
  have hkl : (k : Int) < (t.f2.length : Int) := by omega
  rw [Int.toNat_natCast]
  clear k67 k89 k10 hB hL ht hR hixx hst hel hCc hCi m5
  have hcase : (by_ = -1 ∧ st = 1) ∨ (st + by_ ≠ 0 ∧ -1 ≤ st + by_ ∧ st + by_ ≤ 5) := by omega
  rcases hcase with ⟨rfl, rfl⟩ | ⟨hne0, hb0, hb5⟩
  · have hRR := Lib.hid (show turnC t k (1 + -1) = ⟨t.f0, t.f1, t.f2.eraseIdx k, t.f3, t.f4⟩ by unfold turnC; rw [if_pos (by decide)])
    obtain ⟨T, hT⟩ : ∃ T, turnC t k (1 + -1) = T := ⟨_, rfl⟩
    rw [hT] at hRR
    rw [hT]
    clear hT
    rcases hkd with rfl | rfl
    all_goals
      go_enter Tryd.func69, Tryd.ntmps69
      go_wp2_with fail
      refine HT.out.mono ?_
      rintro e w1 ⟨rfl, hb1⟩
      have HU1 := Aside0.mk (HU.out.step hb1)
      have b2 := HU1.out.lent.cell 2 rfl
      obtain ⟨cz, hcl, hM, hcc, hfr⟩ := Kd.R_elem HU1.out.lent.cols z75 (k : Int) (by omega) (by omega)
      rw [show t.f2.getD (k : Int).toNat z75 = t.f2[k] by simp [List.getD, hk]] at hM
      obtain rfl := k75_openM hM
      have e3 : w1.cell? ⟨gi, k * 9 + 3, none⟩ = some (.int .i64 t.f2[k].f3) := hcc 3 _ rfl
      have f3 : w1.frozen? ⟨gi, k * 9 + 3, none⟩ = false := hfr 3
      rw [← HST.out] at e3
      have HF := Aside0.mk (HU1.out.putS k hk (0) rfl)
      have hne : g ≠ gi := fun e => HU1.out.lent.oki_ne gi (HU1.out.lent.cols.1 gi (by simp [Value.ownBlock])) e.symm
      have hne' : gi ≠ g := Ne.symm hne
      have hk0 : (0 : Int) ≤ (k : Int) := by omega
      clear hcl hM hcc hfr hb1 a0 a1 a2 a3 a4 HT
      go_wp2_with fail
      go_region
      all_goals
        have HFd := Aside0.mk (HF.out.step (below_drew (Below.refl _ _)))
        clear b2 e3 f3 HU1 HU HF
        generalize (w1.setCell ⟨gi, k * 9 + 3, none⟩ (.int .i64 0)).drew = wf at HFd ⊢
        have b2 := HFd.out.lent.cell 2 rfl
        obtain ⟨cz, hcl, hM, hcc, hfr⟩ := Kd.R_elem HFd.out.lent.cols z75 (k : Int) (by omega) (by omega)
        rw [show (t.f2.set k ⟨t.f2[k].f0, t.f2[k].f1, t.f2[k].f2, 0, t.f2[k].f4, t.f2[k].f5⟩).getD (k : Int).toNat z75 = ⟨t.f2[k].f0, t.f2[k].f1, t.f2[k].f2, 0, t.f2[k].f4, t.f2[k].f5⟩ by simp [List.getD, hk]] at hM
        obtain rfl := k75_openM hM
        have e3 : wf.cell? ⟨gi, k * 9 + 3, none⟩ = some (.int .i64 0) := hcc 3 _ rfl
        clear hcl hM hcc hfr
        have HRb := Aside0.mk (rowsM (Kd.R_bound HFd.out.lent.cols))
        have hlc := (Kd.R_reads' HFd.out.lent.cols).2.1
        have hlm := (Kd.R_reads' HFd.out.lent.cols).1
        rw [List.length_set] at hlm
        have HBW := Aside0.mk (HB.out.trans HFd.out.tch.below)
        have HBZ := Aside0.mk (Nat.le_trans HFd.out.base HFd.out.tch.size)
        obtain ⟨i0, hi0, _, hsz, _⟩ := info_parts info75
        have hcut1 : ∀ X : World, (Instr.slice 67 (.slice (some ⟨gi, 0, none⟩) t.f2.length cc) none (some (.int .i64 (k : Int))) none).run Tryd.prog X = .ok (.slice (some ⟨gi, 0, none⟩) k cc) X := cut_to (P := Tryd.prog) 67 75 .i64 Tryd.underlying67 hi0 (some ⟨gi, 0, none⟩) t.f2.length cc (k : Int) (by omega) (by omega) (by omega)
        obtain ⟨AA, hAA⟩ : ∃ AA : Option Addr, (if cc = k + 1 then (some ⟨gi, 0, none⟩ : Option Addr) else (some ⟨gi, 0, none⟩ : Option Addr).map (·.add ((k + 1) * 9))) = AA := ⟨_, rfl⟩
        have hcut2 : ∀ X : World, (Instr.slice 67 (.slice (some ⟨gi, 0, none⟩) t.f2.length cc) (some (.int .i64 ((k : Int) + 1))) none none).run Tryd.prog X = .ok (.slice AA (t.f2.length - (k + 1)) (cc - (k + 1))) X := by
          intro X
          have h := cut_from (P := Tryd.prog) 67 75 .i64 Tryd.underlying67 hi0 9 hsz (some ⟨gi, 0, none⟩) t.f2.length cc ((k : Int) + 1) (by omega) (by omega) X
          rw [show ((k : Int) + 1).toNat = k + 1 by omega, hAA] at h
          exact h
        clear hi0 hsz
        have HL1 := Lib.hid (show ((t.f2.set k ⟨t.f2[k].f0, t.f2[k].f1, t.f2[k].f2, 0, t.f2[k].f4, t.f2[k].f5⟩).take k).length = k by rw [List.length_take, List.length_set]; omega)
        go_wp2_with (first
          | ((with_reducible refine gate_builtin (b := .append) (xs := #[.tmp 125, .tmp 131]) rfl ?_); at_builtin; refine Kd.R_append_rows k75 (w0 := w0) w0.heap.size rfl (.tmp 125) (.tmp 131) 67 75 (.agg #[(.int .i64 0), (.string ⟨#[]⟩), (.int .i64 0), (.int .i64 0), (.int .i64 0), (.int .i64 0), (.int .i64 0), (.int .u64 0), (.string ⟨#[]⟩)]) 88 rfl Tryd.underlying67 info75 rfl (by decide) (by omega) (.slice none 0 0) [] ((t.f2.set k ⟨t.f2[k].f0, t.f2[k].f1, t.f2[k].f2, 0, t.f2[k].f4, t.f2[k].f5⟩).take k) (some ⟨gi, 0, none⟩) k cc oki _ rfl rfl (Kd.R_nil _ _ _ _ _) (rows_take HRb.out (by omega)) (fun _ _ h => h) (fun j h => ⟨h.1.1, by simp [Value.ownBlock]⟩) (fun j hj => HFd.out.lent.fresh j hj) HBW.out HBZ.out (by simp only [List.length_nil]; omega) ?_; intro v1 w2 ho1 hb1 hg1 hn1; rw [List.nil_append] at ho1; have HBB1 := Aside0.mk (show Below wf.heap.size wf w2 from (Below.refl _ _).grown hg1 (Nat.le_refl _) (fun j hj => by simp [Value.ownBlock] at hj)); obtain ⟨A1, c1, hv1⟩ := Kd.R_slice ho1; rw [HL1.out] at hv1; subst hv1; have HO1 := Aside0.mk ho1; have HB1 := Aside0.mk hb1; have HN1 := Aside0.mk hn1; have HF2 := Aside0.mk (HFd.out.step HBB1.out); have d2 := HF2.out.lent.cell 2 rfl; clear ho1 hb1 hg1 hn1 b2 e3)
          | ((with_reducible refine gate_builtin (b := .append) (xs := #[.tmp 133, .tmp 140]) rfl ?_); at_builtin; refine Kd.R_append_rows k75 (w0 := w0) w0.heap.size rfl (.tmp 133) (.tmp 140) 67 75 (.agg #[(.int .i64 0), (.string ⟨#[]⟩), (.int .i64 0), (.int .i64 0), (.int .i64 0), (.int .i64 0), (.int .i64 0), (.int .u64 0), (.string ⟨#[]⟩)]) 88 rfl Tryd.underlying67 info75 rfl (by decide) (by omega) (.slice A1 k c1) ((t.f2.set k ⟨t.f2[k].f0, t.f2[k].f1, t.f2[k].f2, 0, t.f2[k].f4, t.f2[k].f5⟩).take k) ((t.f2.set k ⟨t.f2[k].f0, t.f2[k].f1, t.f2[k].f2, 0, t.f2[k].f4, t.f2[k].f5⟩).drop (k + 1)) AA (t.f2.length - (k + 1)) (cc - (k + 1)) oki _ rfl rfl HO1.out (hAA ▸ (ReadsRow.imp_ (rows_drop HRb.out (by omega) (by omega)) HBB1.out (fun _ _ hp => k75.M_below hp HBB1.out))) (fun _ _ h => h) (fun j h => ⟨h.1.1, fun e => by rcases HN1.out with q | ⟨b, q, hb⟩; (rw [q] at e; simp [Value.ownBlock] at e); (rw [q] at e; injection e with e; have := h.1.2.2.1; omega)⟩) (fun j hj => HF2.out.lent.fresh j hj) HB1.out (Nat.le_trans HBZ.out HBB1.out.size) (by rw [List.length_take, List.length_set]; omega) ?_; intro v2 w3 ho2 hb2 hg2 hn2; rw [erase_set] at ho2; obtain ⟨A2, c2, hv2⟩ := Kd.R_slice ho2; subst hv2; have HBB2 := Aside0.mk (show Below wf.heap.size wf w3 from HBB1.out.grown hg2 HBB1.out.size (fun j hj => by rcases HN1.out with q | ⟨b, q, hb⟩; (rw [q] at hj; simp [Value.ownBlock] at hj); (rw [q] at hj; injection hj with hj; omega))); have HF3 := Aside0.mk (HFd.out.step HBB2.out); have g2 := HF3.out.lent.cell 2 rfl; have gf := HF3.out.lent.frozen (i * 5 + 2); have HFF := Aside0.mk (HF3.out.setC (World.grownBy.refl w3 _) ho2 rfl); clear ho2 hb2 hg2 hn2 d2))
        go_end0
        rw [hRR.out]
        exact ⟨rfl, HFF.out.done⟩
  · have hRR := Lib.hid (show turnC t k (st + by_) = ⟨t.f0, t.f1, t.f2.set k ⟨t.f2[k].f0, t.f2[k].f1, t.f2[k].f2, st + by_, t.f2[k].f4, t.f2[k].f5⟩, t.f3, t.f4⟩ by unfold turnC; rw [if_neg hne0, rd75 _ _ hk])
    obtain ⟨T, hT⟩ : ∃ T, turnC t k (st + by_) = T := ⟨_, rfl⟩
    rw [hT] at hRR
    rw [hT]
    have hq : (st + by_ == 0) = false := by simpa using hne0
    clear hT
    rcases hkd with rfl | rfl
    all_goals
      go_enter Tryd.func69, Tryd.ntmps69
      go_wp2_with fail
      refine HT.out.mono ?_
      rintro e w1 ⟨rfl, hb1⟩
      have HU1 := Aside0.mk (HU.out.step hb1)
      have b2 := HU1.out.lent.cell 2 rfl
      obtain ⟨cz, hcl, hM, hcc, hfr⟩ := Kd.R_elem HU1.out.lent.cols z75 (k : Int) (by omega) (by omega)
      rw [show t.f2.getD (k : Int).toNat z75 = t.f2[k] by simp [List.getD, hk]] at hM
      obtain rfl := k75_openM hM
      have e3 : w1.cell? ⟨gi, k * 9 + 3, none⟩ = some (.int .i64 t.f2[k].f3) := hcc 3 _ rfl
      have f3 : w1.frozen? ⟨gi, k * 9 + 3, none⟩ = false := hfr 3
      rw [← HST.out] at e3
      have HF := Aside0.mk (HU1.out.putS k hk (st + by_) rfl)
      have hne : g ≠ gi := fun e => HU1.out.lent.oki_ne gi (HU1.out.lent.cols.1 gi (by simp [Value.ownBlock])) e.symm
      have hne' : gi ≠ g := Ne.symm hne
      have hk0 : (0 : Int) ≤ (k : Int) := by omega
      clear hcl hM hcc hfr hb1 a0 a1 a2 a3 a4 HT
      go_wp2_with fail
      go_region
      all_goals
        go_wp2
        go_end0
        rw [hRR.out]
        exact ⟨rfl, (HF.out.step (below_drew (Below.refl _ _))).done⟩
set_option maxRecDepth 100000 in
set_option maxHeartbeats 4000000 in
theorem turnN_at (kind : Int) (hkd : kind = 10 ∨ kind = 11) (elem by_ : Int) (hby : by_ = 1 ∨ by_ = -1) : TurnAt kind elem by_ := by
  have k67 : ¬ (kind = 6 ∨ kind = 7) := by rcases hkd with rfl | rfl <;> decide
  have k89 : 8 ≤ kind ∧ kind ≤ 11 := by rcases hkd with rfl | rfl <;> decide
  have k10 : ¬ kind < 10 := by rcases hkd with rfl | rfl <;> decide
  have kn : ¬ (kind = 8 ∨ kind = 9) := by rcases hkd with rfl | rfl <;> decide
  intro w0 W g n cap ts i oki t cv iv hB hL ht he0 he4
  obtain ⟨m2, m3, m4, m5⟩ := tableB_lens ht
  obtain ⟨Ac, cc, hcv, lcc, hCc⟩ := Kd.R_reads hL.cols
  obtain ⟨Ai, ci, hiv, lci, hCi⟩ := Kd.R_reads hL.inds
  subst hcv hiv
  have hix := idxL_at (cId elem) t.f2
  have hel : elemI t kind elem = if 0 ≤ idxL (cId elem) t.f2 0 then (rd_T75 t.f2 (idxL (cId elem) t.f2 0)).f4 else -1 := by unfold elemI; rw [if_neg k67, if_pos k89, if_neg k10]
  obtain ⟨ix, hixx⟩ : ∃ ix, idxL (cId elem) t.f2 0 = ix := ⟨_, rfl⟩
  have HT := Lib.hid (rcolumn_calls t (by omega) elem Ac cc Ai ci W lcc hCc lci hCi)
  have hR : turnP t kind elem by_ = turnN t (idxL (cId elem) t.f2 0).toNat (elemI t kind elem + by_) := by unfold turnP; rw [if_neg k67, if_neg kn]
  rw [hR]
  rw [hixx] at hix hel HT ⊢
  rcases hix with rfl | ⟨k, hk, rfl, -⟩
  · rw [hel, if_neg (by omega)] at he0; omega
  rw [if_pos (by omega), rd75 _ _ hk] at hel
  obtain ⟨st, hst⟩ : ∃ st, elemI t kind elem = st := ⟨_, rfl⟩
  rw [hst] at he0 he4 hel ⊢
  have HST := Lib.hid hel
  obtain ⟨gi, ci', hgi, -⟩ := Kd.R_form hL.cols (by omega)
  obtain rfl : Ac = some ⟨gi, 0, none⟩ := by injection hgi
  clear hgi
  have HU := Aside0.mk (⟨hL, Tch.refl _ _, hB.size⟩ : UpdSt w0 W W g n cap ts i oki t (.slice (some ⟨gi, 0, none⟩) t.f2.length cc) (.slice Ai t.f3.length ci))
  have HB := Aside0.mk hB
  have a0 := hL.cell 0 rfl
  have a1 := hL.cell 1 rfl
  have a2 := hL.cell 2 rfl
  have a3 := hL.cell 3 rfl
  have a4 := hL.cell 4 rfl
  rw [Nat.add_zero] at a0
  have hkl : (k : Int) < (t.f2.length : Int) := by omega
  rw [Int.toNat_natCast]
  clear k67 k89 k10 kn hB hL ht hR hixx hst hel hCc hCi m5
  have hb05 : -1 ≤ st + by_ ∧ st + by_ ≤ 5 := by omega
  have hRR := Lib.hid (show turnN t k (st + by_) = ⟨t.f0, t.f1, t.f2.set k ⟨t.f2[k].f0, t.f2[k].f1, t.f2[k].f2, t.f2[k].f3, st + by_, t.f2[k].f5⟩, t.f3, t.f4⟩ by unfold turnN; rw [rd75 _ _ hk])
  obtain ⟨T, hT⟩ : ∃ T, turnN t k (st + by_) = T := ⟨_, rfl⟩
  rw [hT] at hRR
  rw [hT]
  clear hT
  rcases hkd with rfl | rfl
  all_goals
    go_enter Tryd.func69, Tryd.ntmps69
    go_wp2_with fail
    refine HT.out.mono ?_
    rintro e w1 ⟨rfl, hb1⟩
    have HU1 := Aside0.mk (HU.out.step hb1)
    have b2 := HU1.out.lent.cell 2 rfl
    obtain ⟨cz, hcl, hM, hcc, hfr⟩ := Kd.R_elem HU1.out.lent.cols z75 (k : Int) (by omega) (by omega)
    rw [show t.f2.getD (k : Int).toNat z75 = t.f2[k] by simp [List.getD, hk]] at hM
    obtain rfl := k75_openM hM
    have e4 : w1.cell? ⟨gi, k * 9 + 4, none⟩ = some (.int .i64 t.f2[k].f4) := hcc 4 _ rfl
    have f4 : w1.frozen? ⟨gi, k * 9 + 4, none⟩ = false := hfr 4
    rw [← HST.out] at e4
    have HF := Aside0.mk (HU1.out.putN k hk (st + by_) rfl)
    have hne : g ≠ gi := fun e => HU1.out.lent.oki_ne gi (HU1.out.lent.cols.1 gi (by simp [Value.ownBlock])) e.symm
    have hne' : gi ≠ g := Ne.symm hne
    have hk0 : (0 : Int) ≤ (k : Int) := by omega
    clear hcl hM hcc hfr hb1 a0 a1 a2 a3 a4 HT
    go_wp2_with fail
    go_region
    all_goals
      go_wp2
      go_end0
      rw [hRR.out]
      exact ⟨rfl, (HF.out.step (below_drew (Below.refl _ _))).done⟩
end Go.Proofs.YtjgomlcdmpcoaaaDoor.H
namespace Go.Proofs.YtjgomlcdmpcoaaaDoor.H
open Go.RowKit Go.Proofs.YtjgomlcdmpcoaaaDoorW.PrintWords Go.Proofs.YtjgomlcdmpcoaaaDoorW.PrintLast Go.Proofs.YtjgomlcdmpcoaaaDoorW.PrintMore
open Go.Proofs.YtjgomlcdmpcoaaaDoor.D Go.Proofs.YtjgomlcdmpcoaaaDoor
set_option linter.unusedVariables false
set_option linter.unusedSimpArgs false
theorem turn_at (kind : Int) (hk : 6 ≤ kind ∧ kind ≤ 11) (elem by_ : Int) (hby : by_ = 1 ∨ by_ = -1) : TurnAt kind elem by_ := by
  by_cases h1 : kind = 6 ∨ kind = 7
  · exact turnX_at kind h1 elem by_ hby
  by_cases h2 : kind = 8 ∨ kind = 9
  · exact turnC_at kind h2 elem by_ hby
  exact turnN_at kind (by omega) elem by_ hby
theorem elemI_nil {t : S70} {kind elem : Int} (h : 0 ≤ elemI t kind elem) : 6 ≤ kind ∧ kind ≤ 11 := by
  unfold elemI at h
  by_cases h1 : kind = 6 ∨ kind = 7
  · rcases h1 with rfl | rfl <;> decide
  by_cases h2 : 8 ≤ kind ∧ kind ≤ 11
  · omega
  rw [if_neg h1, if_neg h2] at h
  omega
theorem elemI_le {t : S70} (ht : tableB t = true) (kind elem : Int) : elemI t kind elem ≤ 4 := by
  have hs : ∀ s, stateB s = true → s ≤ 4 := fun s h => by
    unfold stateB at h
    simp only [Bool.and_eq_true, decide_eq_true_eq] at h
    exact h.2
  unfold tableB at ht
  simp only [Bool.and_eq_true, decide_eq_true_eq] at ht
  obtain ⟨_, _, _, _, _, _, h7, h8, _⟩ := ht
  unfold elemI
  split
  · rcases idxL_at (xId elem) t.f3 with h | ⟨k, hk, h, -⟩
    · rw [h, if_neg (by omega)]; omega
    · rw [h, if_pos (by omega), rd98 _ _ hk]
      have := tindsB_all _ _ _ h8 _ (List.getElem_mem hk)
      unfold indexB at this
      simp only [Bool.and_eq_true, decide_eq_true_eq] at this
      exact hs _ this.2.2.2.1
  split
  · rcases idxL_at (cId elem) t.f2 with h | ⟨k, hk, h, -⟩
    · rw [h, if_neg (by omega)]; omega
    · rw [h, if_pos (by omega), rd75 _ _ hk]
      have := tcolsB_all _ _ _ h7 _ (List.getElem_mem hk)
      unfold columnB at this
      simp only [Bool.and_eq_true, decide_eq_true_eq] at this
      split
      · exact hs _ this.2.2.2.1
      · exact hs _ this.2.2.2.2.1
  · omega
set_option maxRecDepth 100000 in
set_option maxHeartbeats 32000000 in
theorem step_calls (v : Int) (ts : List S70) (nx : Int) (kind table elem : Int) (up : Bool) (hn : ts.length < 1000) (hw : ∀ t ∈ ts, ∀ c ∈ t.f2, ValWf c.f5)
    (A : Option Addr) (c : Nat) (w : World) (hc : ts.length ≤ c) (g2 : k70.C w A ts.length ts) :
    Calls Tryd.prog 32 #[.agg #[.int .i64 v, .slice A ts.length c, .int .i64 nx], .int .i64 kind, .int .i64 table, .int .i64 elem, .bool up] w (TellsE w (stepP v ts nx kind table elem up)) := by
  have HC := Aside0.mk g2
  obtain ⟨bx, hbx⟩ : ∃ b : Array Value, b = #[.int .i64 v, .slice A ts.length c, .int .i64 nx] := ⟨_, rfl⟩
  have HX := Aside0.mk (Bxt.new w bx)
  have HM := Lib.hid (fun W (hb : Below w.heap.size w W) => rmay_calls v ts nx hw A c W hc (Kd.C_below g2 hb))
  have HQ := Lib.hid (fun W (hb : Below w.heap.size w W) => rstate_calls v ts nx hn hw kind table elem A c W hc (Kd.C_below g2 hb))
  have HI := Lib.hid (stepP_eq v ts nx kind table elem up)
  obtain ⟨R, hR⟩ : ∃ R, stepP v ts nx kind table elem up = R := ⟨_, rfl⟩
  rw [hR]
  rw [hR] at HI
  rw [hbx] at HX
  have HIX := idxL_at (tId table) ts
  have HSTT := Lib.hid (show stateI v ts nx kind table elem = _ by unfold stateI; exact rfl)
  obtain ⟨st, hst⟩ : ∃ st, stateI v ts nx kind table elem = st := ⟨_, rfl⟩
  obtain ⟨ix, hix⟩ : ∃ ix, idxL (tId table) ts 0 = ix := ⟨_, rfl⟩
  rw [hst] at HQ HI HSTT
  rw [hix] at HIX HI HSTT
  have HP := Lib.hid hix
  clear g2 hR hw hst hix
  cases hsch : schB v ts nx with
  | false =>
    have HR := Lib.hid (show R = noTold 3 by rw [HI.out, if_pos hsch])
    rw [hsch] at HM
    clear hsch HI HIX
    go_enter Tryd.func32, Tryd.ntmps32
    go_wp2_with fail
    refine (HM.out _ HX.out.below).mono ?_
    rintro e w1 ⟨rfl, hb1⟩
    have HX1 := Aside0.mk (HX.out.step hb1)
    have f0 := blk_frozen HX1.out.b2 0
    have f1 := blk_frozen HX1.out.b2 1
    have f2 := blk_frozen HX1.out.b2 2
    have c0 := blk_cell (j := 0) (v := .int .i64 0) HX1.out.b2 rfl
    have c1 := blk_cell (j := 1) (v := .slice none 0 0) HX1.out.b2 rfl
    have c2 := blk_cell (j := 2) (v := .int .i64 0) HX1.out.b2 rfl
    clear hb1
    go_wp2
    refine bodyPost_ret (v := .tuple #[.agg #[.int .i64 0, .slice none 0 0, .int .i64 0], .int .i64 3]) (by simp [results, Tryd.results32, go_sem, c0, c1, c2]) rfl (tellse_no HR.out (HX1.out.out _ _ _))
  | true =>
    rw [hsch] at HM
    have HSTT := Lib.hid (HSTT.out.trans (show _ = (if 0 ≤ ix then elemI (rd_T70 ts ix) kind elem else -1) by rw [if_pos hsch]))
    have HI2 := Lib.hid (HI.out.trans (if_neg (by rw [hsch]; simp)))
    have HB := Lib.hid hsch
    clear hsch HI
    go_enter Tryd.func32, Tryd.ntmps32
    go_wp2_with fail
    refine (HM.out _ HX.out.below).mono ?_
    rintro e w1 ⟨rfl, hb1⟩
    have HX1 := Aside0.mk (HX.out.step hb1)
    have x0 := blk_cell (j := 0) (v := .int .i64 v) HX1.out.b0 rfl
    clear hb1 HX HM
    by_cases hv : 1099511627775 ≤ v
    · have hd : decide (1099511627775 ≤ v) = true := decide_eq_true hv
      have HR := Lib.hid (show R = noTold 4 by rw [HI2.out, if_pos hv])
      have f0 := blk_frozen HX1.out.b2 0
      have f1 := blk_frozen HX1.out.b2 1
      have f2 := blk_frozen HX1.out.b2 2
      have c0 := blk_cell (j := 0) (v := .int .i64 0) HX1.out.b2 rfl
      have c1 := blk_cell (j := 1) (v := .slice none 0 0) HX1.out.b2 rfl
      have c2 := blk_cell (j := 2) (v := .int .i64 0) HX1.out.b2 rfl
      clear hv HI2 HIX
      go_wp2
      refine bodyPost_ret (v := .tuple #[.agg #[.int .i64 0, .slice none 0 0, .int .i64 0], .int .i64 4]) (by simp [results, Tryd.results32, go_sem, c0, c1, c2]) rfl (tellse_no HR.out (HX1.out.out _ _ _))
    have hd : decide (1099511627775 ≤ v) = false := decide_eq_false hv
    have HI3 := Lib.hid (HI2.out.trans (if_neg hv))
    have x1 := blk_cell (j := 1) (v := .slice A ts.length c) HX1.out.b0 rfl
    have x2 := blk_cell (j := 2) (v := .int .i64 nx) HX1.out.b0 rfl
    have HV := Lib.hid hv
    clear HI2 hv
    go_wp2_with fail
    refine (HQ.out _ HX1.out.below).mono ?_
    rintro e w2 ⟨rfl, hb2⟩
    have HX2 := Aside0.mk (HX1.out.step hb2)
    clear hb2 x0 x1 x2 hd HQ
    by_cases hs0 : st < 0
    · have hd : decide (st < 0) = true := decide_eq_true hs0
      have HR := Lib.hid (show R = noTold 5 by rw [HI3.out, if_pos hs0])
      clear HX1
      have HX1 := HX2
      have f0 := blk_frozen HX1.out.b2 0
      have f1 := blk_frozen HX1.out.b2 1
      have f2 := blk_frozen HX1.out.b2 2
      have c0 := blk_cell (j := 0) (v := .int .i64 0) HX1.out.b2 rfl
      have c1 := blk_cell (j := 1) (v := .slice none 0 0) HX1.out.b2 rfl
      have c2 := blk_cell (j := 2) (v := .int .i64 0) HX1.out.b2 rfl
      clear hs0 HI3 HIX
      go_wp2
      refine bodyPost_ret (v := .tuple #[.agg #[.int .i64 0, .slice none 0 0, .int .i64 0], .int .i64 5]) (by simp [results, Tryd.results32, go_sem, c0, c1, c2]) rfl (tellse_no HR.out (HX1.out.out _ _ _))
    have hd : decide (st < 0) = false := decide_eq_false hs0
    have HI4 := Lib.hid (HI3.out.trans (if_neg hs0))
    have hs0' : 0 ≤ st := by omega
    clear HI3
    obtain ⟨k, hk, rfl⟩ : ∃ k : Nat, k < ts.length ∧ ix = (k : Int) := by
      rcases HIX with rfl | ⟨k, hk, h, -⟩
      · have := HSTT.out; rw [if_neg (by omega)] at this; omega
      · exact ⟨k, hk, h⟩
    have hel : elemI ts[k] kind elem = st := by have := HSTT.out; rw [if_pos (by omega), rd70 _ _ hk] at this; exact this.symm
    have HTB := Lib.hid (schB_tab HB.out _ (List.getElem_mem hk))
    have hkd := elemI_nil (show 0 ≤ elemI ts[k] kind elem by rw [hel]; exact hs0')
    have hs5 : st ≤ 4 := by rw [← hel]; exact elemI_le HTB.out kind elem
    obtain ⟨bb, hbb⟩ : ∃ bb, (if up = true then (1 : Int) else -1) = bb := ⟨_, rfl⟩
    have hbb1 : bb = 1 ∨ bb = -1 := by rw [← hbb]; cases up <;> simp
    obtain ⟨T', hT'⟩ : ∃ T', turnP ts[k] kind elem bb = T' := ⟨_, rfl⟩
    have HTA := Lib.hid (fun (W : World) (g cap : Nat) (oki : Nat → Prop) (cv iv : Value) (hB : Below w.heap.size w W) (hL : Lent W w.heap.size g ts.length cap ts k oki ts[k] cv iv) => by
      have h := turn_at kind hkd elem bb hbb1 w W g ts.length cap ts k oki ts[k] cv iv hB hL HTB.out (by rw [hel]; exact hs0') (by rw [hel]; exact hs5)
      rw [hT'] at h
      exact h)
    have HI4 := Lib.hid (HI4.out.trans (show _ = (if (up = true ∧ st = 4) ∨ (up = false ∧ st = 0) then noTold 12
      else if 8 ≤ kind ∧ idxL (cId elem) ts[k].f2 0 = 0 then noTold 8
      else if up = false ∧ st = 1 ∧ (kind = 8 ∨ kind = 9) ∧ usedB elem ts[k].f3 = true then noTold 18
      else (⟨v + 1, ts.set k T', nx, 0, 0, 0⟩ : Told)) by rw [rd70 _ _ hk, hbb, hT', Int.toNat_natCast]))
    have hk6 : kind = 6 ∨ kind = 7 ∨ kind = 8 ∨ kind = 9 ∨ kind = 10 ∨ kind = 11 := by omega
    by_cases hr12 : (up = true ∧ st = 4) ∨ (up = false ∧ st = 0)
    · have hr12' : (up = true ∧ (st == 4) = true) ∨ (up = false ∧ (st == 0) = true) := by
        rcases hr12 with ⟨h1, h2⟩ | ⟨h1, h2⟩
        · exact .inl ⟨h1, by simpa using h2⟩
        · exact .inr ⟨h1, by simpa using h2⟩
      clear HTA hel hkd HSTT HIX hT' hbb hbb1
      rcases hr12' with ⟨rfl, hq⟩ | ⟨rfl, hq⟩
      all_goals
        rcases hk6 with rfl | rfl | rfl | rfl | rfl | rfl
        all_goals
          have HR := Lib.hid (show R = noTold 12 by rw [HI4.out, if_pos hr12])
          clear HX1
          have HX1 := HX2
          have f0 := blk_frozen HX1.out.b2 0
          have f1 := blk_frozen HX1.out.b2 1
          have f2 := blk_frozen HX1.out.b2 2
          have c0 := blk_cell (j := 0) (v := .int .i64 0) HX1.out.b2 rfl
          have c1 := blk_cell (j := 1) (v := .slice none 0 0) HX1.out.b2 rfl
          have c2 := blk_cell (j := 2) (v := .int .i64 0) HX1.out.b2 rfl
          clear HI4 hr12
          go_wp2
          refine bodyPost_ret (v := .tuple #[.agg #[.int .i64 0, .slice none 0 0, .int .i64 0], .int .i64 12]) (by simp [results, Tryd.results32, go_sem, c0, c1, c2]) rfl (tellse_no HR.out (HX1.out.out _ _ _))
    have HI5 := Lib.hid (HI4.out.trans (if_neg hr12))
    have hup : (up = true ∧ bb = 1 ∧ (st == 4) = false) ∨ (up = false ∧ bb = -1 ∧ (st == 0) = false) := by
      cases up
      · exact .inr ⟨rfl, by rw [← hbb]; rfl, by have : st ≠ 0 := fun e => hr12 (.inr ⟨rfl, e⟩); simpa using this⟩
      · exact .inl ⟨rfl, by rw [← hbb]; rfl, by have : st ≠ 4 := fun e => hr12 (.inl ⟨rfl, e⟩); simpa using this⟩
    obtain ⟨t, ht⟩ : ∃ t, ts[k] = t := ⟨_, rfl⟩
    rw [ht] at HTA HI5 HTB
    have HTE := Lib.hid ht
    have hk0 : (0 : Int) ≤ (k : Int) := by omega
    have hkl : (k : Int) < (ts.length : Int) := by omega
    have hv1 : v < 1099511627775 := by have := HV.out; omega
    have hv0 : 0 ≤ v := by have := HB.out; unfold schB at this; simp only [Bool.and_eq_true, decide_eq_true_eq] at this; exact this.1
    have hgrp : ((kind = 6 ∨ kind = 7)) ∨ ((kind = 10 ∨ kind = 11) ∨ ((kind = 8 ∨ kind = 9) ∧ (up = true ∨ (up = false ∧ (st == 1) = false)))) ∨ ((kind = 8 ∨ kind = 9) ∧ up = false ∧ (st == 1) = true) := by
      by_cases h1 : st = 1
      · cases up
        · rcases hk6 with h | h | h | h | h | h <;> simp [h, h1]
        · rcases hk6 with h | h | h | h | h | h <;> simp [h, h1]
      · cases up
        · rcases hk6 with h | h | h | h | h | h <;> simp [h, h1]
        · rcases hk6 with h | h | h | h | h | h <;> simp [h, h1]
    clear hr12 HI4 HIX HSTT hel hs0 HX1 hk6 hkd ht hT' hbb hbb1
    rcases hgrp with hg | hg | hg
    · have HR6 := Lib.hid ((HI5.out.trans (if_neg (by omega))).trans (if_neg (by rintro ⟨-, -, h, -⟩; omega)))
      clear HI5
      have hup1 : (up = true ∧ bb = 1 ∧ (st == 4) = false ∧ True) ∨ (up = false ∧ bb = -1 ∧ (st == 0) = false ∧ (st == 1) = true) ∨ (up = false ∧ bb = -1 ∧ (st == 0) = false ∧ (st == 1) = false) := by
        rcases hup with ⟨h1, h2, h3⟩ | ⟨h1, h2, h3⟩
        · exact .inl ⟨h1, h2, h3, trivial⟩
        · cases hq1 : (st == 1)
          · exact .inr (.inr ⟨h1, h2, h3, rfl⟩)
          · exact .inr (.inl ⟨h1, h2, h3, rfl⟩)
      clear hup
      rcases hup1 with ⟨rfl, rfl, hq, hq1⟩ | ⟨rfl, rfl, hq, hq1⟩ | ⟨rfl, rfl, hq, hq1⟩
      all_goals
        rcases hg with rfl | rfl
        all_goals
          have x0 := blk_cell (j := 0) (v := .int .i64 v) HX2.out.b0 rfl
          have x1 := blk_cell (j := 1) (v := .slice A ts.length c) HX2.out.b0 rfl
          have x2 := blk_cell (j := 2) (v := .int .i64 nx) HX2.out.b0 rfl
          go_wp2_with fail
          refine (copy_calls v ts nx (schB_small HB.out) A c w2 hc (Kd.C_below HC.out HX2.out.below)).mono ?_
          rintro e w3 ⟨u, rfl, hS, hb3⟩
          have hS' := Kd.S_lower hS HX2.out.below.size
          obtain ⟨g, cap, rfl, -⟩ := Kd.S_form hS' (by omega)
          obtain ⟨Y, hY⟩ : ∃ Y : Obj, Y = .cells #[.int .i64 v, .slice (some ⟨g, 0, none⟩) ts.length cap, .int .i64 nx] 28 := ⟨_, rfl⟩
          have hby := below_alloc (Below.refl _ w3) Y
          have hX3 := HX2.out.step hb3
          have HX3 := Aside0.mk (hX3.step hby)
          have HS3 := Aside0.mk (Kd.S_alloc hS' Y)
          have HY := Aside0.mk (heap_alloc_new w3 Y)
          have hq3 : w.heap.size + 1 < w3.heap.size := lt_of_block hX3.b2
          clear hS hS' hb3 x0 x1 x2 HX2 hby hX3
          rw [hY] at HX3 HS3 HY
          go_wp2_with fail
          rw [← hY]
          rw [← hY] at HX3 HS3 HY
          obtain ⟨m, hm⟩ : ∃ m, m = w3.heap.size := ⟨_, rfl⟩
          rw [← hm] at HY hq3 ⊢
          have HM3 := Lib.hid hm
          generalize w3.alloc Y = w4 at HX3 HS3 HY ⊢
          clear hm
          have HYY := HY
          rw [hY] at HYY
          have HYB := Aside0.mk (show w4.heap[m]? = some (.cells #[.int .i64 v, .slice (some ⟨g, 0, none⟩) ts.length cap, .int .i64 nx] 28 (0, 0)) from HYY.out)
          clear HYY HY hY
          have HP3 := Lib.hid (fun W (hb : Below w.heap.size w W) => rbyid_calls v ts nx table hn A c W hc (Kd.C_below HC.out hb))
          rw [HP.out] at HP3
          have x0 := blk_cell (j := 0) (v := .int .i64 v) HX3.out.b0 rfl
          have x1 := blk_cell (j := 1) (v := .slice A ts.length c) HX3.out.b0 rfl
          have x2 := blk_cell (j := 2) (v := .int .i64 nx) HX3.out.b0 rfl
          have y1 := blk_cell (j := 1) (v := .slice (some ⟨g, 0, none⟩) ts.length cap) HYB.out rfl
          have HH := Aside0.mk (HeldY.new (w := w) (W0 := w4) x0 x1 x2 y1)
          clear x0 x1 x2 y1
          go_region_held3 (fun W => Below w4.heap.size w4 W ∧ W.cell? ⟨w.heap.size, 0, none⟩ = some (.int .i64 v) ∧ W.cell? ⟨w.heap.size, 1, none⟩ = some (.slice A ts.length c) ∧ W.cell? ⟨w.heap.size, 2, none⟩ = some (.int .i64 nx) ∧ W.cell? ⟨m, 1, none⟩ = some (.slice (some ⟨g, 0, none⟩) ts.length cap))
            (first | exact HH.out | exact HeldY.step (m := m) ⟨by assumption, by assumption, by assumption, by assumption, by assumption⟩ hbq)
            (first | (go_at_call 65; go_split_ands; refine (HP3.out _ (below_then HX3.out.below HX3.out.below.size (by assumption))).mono ?_; rintro e w5 ⟨rfl, hbq⟩))
          rename_i hHeld
          obtain ⟨hb5, -, -, -, -⟩ := hHeld
          have HX5 := Aside0.mk (HX3.out.step hb5)
          have HY5 := Aside0.mk (blk_below HYB.out hb5)
          obtain ⟨oki, cv, iv, hL⟩ := lend (Kd.S_below HS3.out hb5) hk
          rw [HTE.out] at hL
          have HL5 := Aside0.mk hL
          clear hb5 HS3 HX3 HYB HH HP3 hL
          have HUU := Lib.hid (HTA.out _ g cap oki cv iv HX5.out.below HL5.out)
          go_wp2_with fail
          refine HUU.out.mono ?_
          rintro e w6 ⟨rfl, hS6, hT6⟩
          have HX6 := Aside0.mk (HX5.out.tch hT6)
          have hY6 := hT6.box HY5.out
          have y0 := blk_cell (j := 0) (v := .int .i64 v) hY6 rfl
          have yf := blk_frozen hY6 0
          have hX7 := HX6.out.far (j := 0) hq3 (.int .i64 (v + 1))
          have hY7 := blk_put hY6 0 (.int .i64 (v + 1)) rfl
          have hS7 := Kd.S_set hS6 hY6 (by decide) 0 (.int .i64 (v + 1))
          have y1 := blk_cell (j := 1) (v := .slice (some ⟨g, 0, none⟩) ts.length cap) hY6 rfl
          have y2 := blk_cell (j := 2) (v := .int .i64 nx) hY6 rfl
          have f0 := blk_frozen HX6.out.b2 0
          have f1 := blk_frozen HX6.out.b2 1
          have f2 := blk_frozen HX6.out.b2 2
          have c0 := blk_cell (j := 0) (v := .int .i64 0) HX6.out.b2 rfl
          have c1 := blk_cell (j := 1) (v := .slice none 0 0) HX6.out.b2 rfl
          have c2 := blk_cell (j := 2) (v := .int .i64 0) HX6.out.b2 rfl
          have n1 : m ≠ w.heap.size + 1 := by omega
          have n2 : w.heap.size + 1 ≠ m := by omega
          have hlen : (ts.set k (T')).length = ts.length := List.length_set
          rw [← hlen] at hS7
          have HFIN := Aside0.mk (And.intro (S_set3 (a := .int .i64 (v + 1)) (b := .slice (some ⟨g, 0, none⟩) ts.length cap) (c := .int .i64 nx) hS7 hX7.b2) (hX7.out (.int .i64 (v + 1)) (.slice (some ⟨g, 0, none⟩) ts.length cap) (.int .i64 nx)))
          rw [hlen] at HFIN
          clear hS6 hT6 HUU hY6 hX7 hY7 hS7 hlen
          go_wp2
          refine bodyPost_ret (v := .tuple #[.agg #[.int .i64 (v + 1), .slice (some ⟨g, 0, none⟩) ts.length cap, .int .i64 nx], .int .i64 0]) (by simp [results, Tryd.results32, go_sem, c0, c1, c2, y0, y1, y2]) rfl ?_
          have hfin := tellse_ok (w := w) (R := R) (v := v + 1) (nx := nx) (ts := ts.set k (T')) (by rw [HR6.out]) (Kd.S_R HFIN.out.1) HFIN.out.2
          exact hfin
    · have hkk : 8 ≤ kind ∧ kind ≤ 11 := by omega
      have hk4 : kind = 8 ∨ kind = 9 ∨ kind = 10 ∨ kind = 11 := by omega
      have hall : (kind = 8 ∧ up = true ∧ bb = 1 ∧ (st == 4) = false ∧ True) ∨ (kind = 9 ∧ up = true ∧ bb = 1 ∧ (st == 4) = false ∧ True) ∨ (kind = 10 ∧ up = true ∧ bb = 1 ∧ (st == 4) = false ∧ True) ∨ (kind = 11 ∧ up = true ∧ bb = 1 ∧ (st == 4) = false ∧ True) ∨ (kind = 8 ∧ up = false ∧ bb = -1 ∧ (st == 0) = false ∧ (st == 1) = false) ∨ (kind = 9 ∧ up = false ∧ bb = -1 ∧ (st == 0) = false ∧ (st == 1) = false) ∨ (kind = 10 ∧ up = false ∧ bb = -1 ∧ (st == 0) = false ∧ (st == 1) = false) ∨ (kind = 11 ∧ up = false ∧ bb = -1 ∧ (st == 0) = false ∧ (st == 1) = false) ∨ (kind = 10 ∧ up = false ∧ bb = -1 ∧ (st == 0) = false ∧ (st == 1) = true) ∨ (kind = 11 ∧ up = false ∧ bb = -1 ∧ (st == 0) = false ∧ (st == 1) = true) := by
        cases hq1 : (st == 1) <;> rcases hup with ⟨h1, h2, h3⟩ | ⟨h1, h2, h3⟩ <;> rcases hk4 with h | h | h | h <;> first | (simp [h, h1, h2, h3]; done) | (simp [h, h1, hq1] at hg)
      by_cases hcz : idxL (cId elem) t.f2 0 = 0
      · have HI8 := Lib.hid (HI5.out.trans (if_pos ⟨hkk.1, hcz⟩))
        clear HI5 HTA hall hg hkk
        rcases hup with ⟨rfl, rfl, hq⟩ | ⟨rfl, rfl, hq⟩
        all_goals
          rcases hk4 with rfl | rfl | rfl | rfl
          all_goals
            have x0 := blk_cell (j := 0) (v := .int .i64 v) HX2.out.b0 rfl
            have x1 := blk_cell (j := 1) (v := .slice A ts.length c) HX2.out.b0 rfl
            have x2 := blk_cell (j := 2) (v := .int .i64 nx) HX2.out.b0 rfl
            go_wp2_with fail
            refine (copy_calls v ts nx (schB_small HB.out) A c w2 hc (Kd.C_below HC.out HX2.out.below)).mono ?_
            rintro e w3 ⟨u, rfl, hS, hb3⟩
            have hS' := Kd.S_lower hS HX2.out.below.size
            obtain ⟨g, cap, rfl, -⟩ := Kd.S_form hS' (by omega)
            obtain ⟨Y, hY⟩ : ∃ Y : Obj, Y = .cells #[.int .i64 v, .slice (some ⟨g, 0, none⟩) ts.length cap, .int .i64 nx] 28 := ⟨_, rfl⟩
            have hby := below_alloc (Below.refl _ w3) Y
            have hX3 := HX2.out.step hb3
            have HX3 := Aside0.mk (hX3.step hby)
            have HS3 := Aside0.mk (Kd.S_alloc hS' Y)
            have HY := Aside0.mk (heap_alloc_new w3 Y)
            have hq3 : w.heap.size + 1 < w3.heap.size := lt_of_block hX3.b2
            clear hS hS' hb3 x0 x1 x2 HX2 hby hX3
            rw [hY] at HX3 HS3 HY
            go_wp2_with fail
            rw [← hY]
            rw [← hY] at HX3 HS3 HY
            obtain ⟨m, hm⟩ : ∃ m, m = w3.heap.size := ⟨_, rfl⟩
            rw [← hm] at HY hq3 ⊢
            have HM3 := Lib.hid hm
            generalize w3.alloc Y = w4 at HX3 HS3 HY ⊢
            clear hm
            have HYY := HY
            rw [hY] at HYY
            have HYB := Aside0.mk (show w4.heap[m]? = some (.cells #[.int .i64 v, .slice (some ⟨g, 0, none⟩) ts.length cap, .int .i64 nx] 28 (0, 0)) from HYY.out)
            clear HYY HY hY
            have HP3 := Lib.hid (fun W (hb : Below w.heap.size w W) => rbyid_calls v ts nx table hn A c W hc (Kd.C_below HC.out hb))
            rw [HP.out] at HP3
            have x0 := blk_cell (j := 0) (v := .int .i64 v) HX3.out.b0 rfl
            have x1 := blk_cell (j := 1) (v := .slice A ts.length c) HX3.out.b0 rfl
            have x2 := blk_cell (j := 2) (v := .int .i64 nx) HX3.out.b0 rfl
            have y1 := blk_cell (j := 1) (v := .slice (some ⟨g, 0, none⟩) ts.length cap) HYB.out rfl
            have HH := Aside0.mk (HeldY.new (w := w) (W0 := w4) x0 x1 x2 y1)
            clear x0 x1 x2 y1
            go_region_held3 (fun W => Below w4.heap.size w4 W ∧ W.cell? ⟨w.heap.size, 0, none⟩ = some (.int .i64 v) ∧ W.cell? ⟨w.heap.size, 1, none⟩ = some (.slice A ts.length c) ∧ W.cell? ⟨w.heap.size, 2, none⟩ = some (.int .i64 nx) ∧ W.cell? ⟨m, 1, none⟩ = some (.slice (some ⟨g, 0, none⟩) ts.length cap))
              (first | exact HH.out | exact HeldY.step (m := m) ⟨by assumption, by assumption, by assumption, by assumption, by assumption⟩ hbq)
              (first | (go_at_call 65; go_split_ands; refine (HP3.out _ (below_then HX3.out.below HX3.out.below.size (by assumption))).mono ?_; rintro e w5 ⟨rfl, hbq⟩))
            rename_i hHeld
            obtain ⟨hb5, -, -, -, -⟩ := hHeld
            have HX5 := Aside0.mk (HX3.out.step hb5)
            have HY5 := Aside0.mk (blk_below HYB.out hb5)
            obtain ⟨oki, cv, iv, hL⟩ := lend (Kd.S_below HS3.out hb5) hk
            rw [HTE.out] at hL
            have HL5 := Aside0.mk hL
            clear hb5 HS3 HX3 HYB HH HP3 hL
            obtain ⟨Ac, cc, hcv, lcc, hCc⟩ := Kd.R_reads HL5.out.cols
            obtain ⟨Ai, ci, hiv, lci, hCi⟩ := Kd.R_reads HL5.out.inds
            subst hcv hiv
            have a0 := HL5.out.cell 0 rfl
            have a1 := HL5.out.cell 1 rfl
            have a2 := HL5.out.cell 2 rfl
            have a3 := HL5.out.cell 3 rfl
            have a4 := HL5.out.cell 4 rfl
            rw [Nat.add_zero] at a0
            have HCI := Lib.hid (rcolumn_calls t (by have := (tableB_lens HTB.out).2.1; omega) elem Ac cc Ai ci w5 lcc hCc lci hCi)
            rw [hcz] at HCI
            go_wp2_with fail
            refine HCI.out.mono ?_
            rintro e w5b ⟨rfl, hb5b⟩
            have HX5b := Aside0.mk (HX5.out.step hb5b)
            have HY5b := Aside0.mk (blk_below HY5.out hb5b)
            have HL5b := Aside0.mk (HL5.out.step hb5b)
            clear a0 a1 a2 a3 a4 HCI hb5b hCc hCi
            have HR := Lib.hid (show R = noTold 8 by exact HI8.out)
            have HX1 := HX5b
            have f0 := blk_frozen HX1.out.b2 0
            have f1 := blk_frozen HX1.out.b2 1
            have f2 := blk_frozen HX1.out.b2 2
            have c0 := blk_cell (j := 0) (v := .int .i64 0) HX1.out.b2 rfl
            have c1 := blk_cell (j := 1) (v := .slice none 0 0) HX1.out.b2 rfl
            have c2 := blk_cell (j := 2) (v := .int .i64 0) HX1.out.b2 rfl
            clear HI8
            go_wp2
            refine bodyPost_ret (v := .tuple #[.agg #[.int .i64 0, .slice none 0 0, .int .i64 0], .int .i64 8]) (by simp [results, Tryd.results32, go_sem, c0, c1, c2]) rfl (tellse_no HR.out (HX1.out.out _ _ _))
      · have HR6 := Lib.hid ((HI5.out.trans (if_neg (fun h => hcz h.2))).trans (if_neg (by
          rintro ⟨h1, h2, h3, -⟩
          rcases hg with h | ⟨-, h | ⟨-, h⟩⟩
          · omega
          · rw [h] at h1; cases h1
          · rw [h2] at h; cases h)))
        obtain ⟨ci_, hci⟩ : ∃ x, idxL (cId elem) t.f2 0 = x := ⟨_, rfl⟩
        rw [hci] at hcz
        have hcq : (ci_ == 0) = false := by simpa using hcz
        clear HI5 hg hkk hk4 hup
        rcases hall with ⟨rfl, rfl, rfl, hq, hq1⟩ | ⟨rfl, rfl, rfl, hq, hq1⟩ | ⟨rfl, rfl, rfl, hq, hq1⟩ | ⟨rfl, rfl, rfl, hq, hq1⟩ | ⟨rfl, rfl, rfl, hq, hq1⟩ | ⟨rfl, rfl, rfl, hq, hq1⟩ | ⟨rfl, rfl, rfl, hq, hq1⟩ | ⟨rfl, rfl, rfl, hq, hq1⟩ | ⟨rfl, rfl, rfl, hq, hq1⟩ | ⟨rfl, rfl, rfl, hq, hq1⟩
        all_goals
          skip
          all_goals
            have x0 := blk_cell (j := 0) (v := .int .i64 v) HX2.out.b0 rfl
            have x1 := blk_cell (j := 1) (v := .slice A ts.length c) HX2.out.b0 rfl
            have x2 := blk_cell (j := 2) (v := .int .i64 nx) HX2.out.b0 rfl
            go_wp2_with fail
            refine (copy_calls v ts nx (schB_small HB.out) A c w2 hc (Kd.C_below HC.out HX2.out.below)).mono ?_
            rintro e w3 ⟨u, rfl, hS, hb3⟩
            have hS' := Kd.S_lower hS HX2.out.below.size
            obtain ⟨g, cap, rfl, -⟩ := Kd.S_form hS' (by omega)
            obtain ⟨Y, hY⟩ : ∃ Y : Obj, Y = .cells #[.int .i64 v, .slice (some ⟨g, 0, none⟩) ts.length cap, .int .i64 nx] 28 := ⟨_, rfl⟩
            have hby := below_alloc (Below.refl _ w3) Y
            have hX3 := HX2.out.step hb3
            have HX3 := Aside0.mk (hX3.step hby)
            have HS3 := Aside0.mk (Kd.S_alloc hS' Y)
            have HY := Aside0.mk (heap_alloc_new w3 Y)
            have hq3 : w.heap.size + 1 < w3.heap.size := lt_of_block hX3.b2
            clear hS hS' hb3 x0 x1 x2 HX2 hby hX3
            rw [hY] at HX3 HS3 HY
            go_wp2_with fail
            rw [← hY]
            rw [← hY] at HX3 HS3 HY
            obtain ⟨m, hm⟩ : ∃ m, m = w3.heap.size := ⟨_, rfl⟩
            rw [← hm] at HY hq3 ⊢
            have HM3 := Lib.hid hm
            generalize w3.alloc Y = w4 at HX3 HS3 HY ⊢
            clear hm
            have HYY := HY
            rw [hY] at HYY
            have HYB := Aside0.mk (show w4.heap[m]? = some (.cells #[.int .i64 v, .slice (some ⟨g, 0, none⟩) ts.length cap, .int .i64 nx] 28 (0, 0)) from HYY.out)
            clear HYY HY hY
            have HP3 := Lib.hid (fun W (hb : Below w.heap.size w W) => rbyid_calls v ts nx table hn A c W hc (Kd.C_below HC.out hb))
            rw [HP.out] at HP3
            have x0 := blk_cell (j := 0) (v := .int .i64 v) HX3.out.b0 rfl
            have x1 := blk_cell (j := 1) (v := .slice A ts.length c) HX3.out.b0 rfl
            have x2 := blk_cell (j := 2) (v := .int .i64 nx) HX3.out.b0 rfl
            have y1 := blk_cell (j := 1) (v := .slice (some ⟨g, 0, none⟩) ts.length cap) HYB.out rfl
            have HH := Aside0.mk (HeldY.new (w := w) (W0 := w4) x0 x1 x2 y1)
            clear x0 x1 x2 y1
            go_region_held3 (fun W => Below w4.heap.size w4 W ∧ W.cell? ⟨w.heap.size, 0, none⟩ = some (.int .i64 v) ∧ W.cell? ⟨w.heap.size, 1, none⟩ = some (.slice A ts.length c) ∧ W.cell? ⟨w.heap.size, 2, none⟩ = some (.int .i64 nx) ∧ W.cell? ⟨m, 1, none⟩ = some (.slice (some ⟨g, 0, none⟩) ts.length cap))
              (first | exact HH.out | exact HeldY.step (m := m) ⟨by assumption, by assumption, by assumption, by assumption, by assumption⟩ hbq)
              (first | (go_at_call 65; go_split_ands; refine (HP3.out _ (below_then HX3.out.below HX3.out.below.size (by assumption))).mono ?_; rintro e w5 ⟨rfl, hbq⟩))
            rename_i hHeld
            obtain ⟨hb5, -, -, -, -⟩ := hHeld
            have HX5 := Aside0.mk (HX3.out.step hb5)
            have HY5 := Aside0.mk (blk_below HYB.out hb5)
            obtain ⟨oki, cv, iv, hL⟩ := lend (Kd.S_below HS3.out hb5) hk
            rw [HTE.out] at hL
            have HL5 := Aside0.mk hL
            clear hb5 HS3 HX3 HYB HH HP3 hL
            obtain ⟨Ac, cc, hcv, lcc, hCc⟩ := Kd.R_reads HL5.out.cols
            obtain ⟨Ai, ci, hiv, lci, hCi⟩ := Kd.R_reads HL5.out.inds
            subst hcv hiv
            have a0 := HL5.out.cell 0 rfl
            have a1 := HL5.out.cell 1 rfl
            have a2 := HL5.out.cell 2 rfl
            have a3 := HL5.out.cell 3 rfl
            have a4 := HL5.out.cell 4 rfl
            rw [Nat.add_zero] at a0
            have HCI := Lib.hid (rcolumn_calls t (by have := (tableB_lens HTB.out).2.1; omega) elem Ac cc Ai ci w5 lcc hCc lci hCi)
            rw [hci] at HCI
            go_wp2_with fail
            refine HCI.out.mono ?_
            rintro e w5b ⟨rfl, hb5b⟩
            have HX5b := Aside0.mk (HX5.out.step hb5b)
            have HY5b := Aside0.mk (blk_below HY5.out hb5b)
            have HL5b := Aside0.mk (HL5.out.step hb5b)
            clear a0 a1 a2 a3 a4 HCI hb5b hCc hCi
            have HUU := Lib.hid (HTA.out _ g cap oki _ _ HX5b.out.below HL5b.out)
            go_wp2_with fail
            refine HUU.out.mono ?_
            rintro e w6 ⟨rfl, hS6, hT6⟩
            have HX6 := Aside0.mk (HX5b.out.tch hT6)
            have hY6 := hT6.box HY5b.out
            have y0 := blk_cell (j := 0) (v := .int .i64 v) hY6 rfl
            have yf := blk_frozen hY6 0
            have hX7 := HX6.out.far (j := 0) hq3 (.int .i64 (v + 1))
            have hY7 := blk_put hY6 0 (.int .i64 (v + 1)) rfl
            have hS7 := Kd.S_set hS6 hY6 (by decide) 0 (.int .i64 (v + 1))
            have y1 := blk_cell (j := 1) (v := .slice (some ⟨g, 0, none⟩) ts.length cap) hY6 rfl
            have y2 := blk_cell (j := 2) (v := .int .i64 nx) hY6 rfl
            have f0 := blk_frozen HX6.out.b2 0
            have f1 := blk_frozen HX6.out.b2 1
            have f2 := blk_frozen HX6.out.b2 2
            have c0 := blk_cell (j := 0) (v := .int .i64 0) HX6.out.b2 rfl
            have c1 := blk_cell (j := 1) (v := .slice none 0 0) HX6.out.b2 rfl
            have c2 := blk_cell (j := 2) (v := .int .i64 0) HX6.out.b2 rfl
            have n1 : m ≠ w.heap.size + 1 := by omega
            have n2 : w.heap.size + 1 ≠ m := by omega
            have hlen : (ts.set k (T')).length = ts.length := List.length_set
            rw [← hlen] at hS7
            have HFIN := Aside0.mk (And.intro (S_set3 (a := .int .i64 (v + 1)) (b := .slice (some ⟨g, 0, none⟩) ts.length cap) (c := .int .i64 nx) hS7 hX7.b2) (hX7.out (.int .i64 (v + 1)) (.slice (some ⟨g, 0, none⟩) ts.length cap) (.int .i64 nx)))
            rw [hlen] at HFIN
            clear hS6 hT6 HUU hY6 hX7 hY7 hS7 hlen
            go_wp2
            refine bodyPost_ret (v := .tuple #[.agg #[.int .i64 (v + 1), .slice (some ⟨g, 0, none⟩) ts.length cap, .int .i64 nx], .int .i64 0]) (by simp [results, Tryd.results32, go_sem, c0, c1, c2, y0, y1, y2]) rfl ?_
            have hfin := tellse_ok (w := w) (R := R) (v := v + 1) (nx := nx) (ts := ts.set k (T')) (by rw [HR6.out]) (Kd.S_R HFIN.out.1) HFIN.out.2
            exact hfin
    · have hkk : 8 ≤ kind := by omega
      obtain ⟨hg1, rfl, hq1⟩ := hg
      obtain ⟨rfl, hq0⟩ : bb = -1 ∧ (st == 0) = false := by
        rcases hup with ⟨h, -⟩ | ⟨-, h1, h2⟩
        · cases h
        · exact ⟨h1, h2⟩
      clear hup
      by_cases hcz : idxL (cId elem) t.f2 0 = 0
      · have HI8 := Lib.hid (HI5.out.trans (if_pos ⟨hkk, hcz⟩))
        clear HI5 HTA hkk
        rcases hg1 with rfl | rfl
        all_goals
          have x0 := blk_cell (j := 0) (v := .int .i64 v) HX2.out.b0 rfl
          have x1 := blk_cell (j := 1) (v := .slice A ts.length c) HX2.out.b0 rfl
          have x2 := blk_cell (j := 2) (v := .int .i64 nx) HX2.out.b0 rfl
          go_wp2_with fail
          refine (copy_calls v ts nx (schB_small HB.out) A c w2 hc (Kd.C_below HC.out HX2.out.below)).mono ?_
          rintro e w3 ⟨u, rfl, hS, hb3⟩
          have hS' := Kd.S_lower hS HX2.out.below.size
          obtain ⟨g, cap, rfl, -⟩ := Kd.S_form hS' (by omega)
          obtain ⟨Y, hY⟩ : ∃ Y : Obj, Y = .cells #[.int .i64 v, .slice (some ⟨g, 0, none⟩) ts.length cap, .int .i64 nx] 28 := ⟨_, rfl⟩
          have hby := below_alloc (Below.refl _ w3) Y
          have hX3 := HX2.out.step hb3
          have HX3 := Aside0.mk (hX3.step hby)
          have HS3 := Aside0.mk (Kd.S_alloc hS' Y)
          have HY := Aside0.mk (heap_alloc_new w3 Y)
          have hq3 : w.heap.size + 1 < w3.heap.size := lt_of_block hX3.b2
          clear hS hS' hb3 x0 x1 x2 HX2 hby hX3
          rw [hY] at HX3 HS3 HY
          go_wp2_with fail
          rw [← hY]
          rw [← hY] at HX3 HS3 HY
          obtain ⟨m, hm⟩ : ∃ m, m = w3.heap.size := ⟨_, rfl⟩
          rw [← hm] at HY hq3 ⊢
          have HM3 := Lib.hid hm
          generalize w3.alloc Y = w4 at HX3 HS3 HY ⊢
          clear hm
          have HYY := HY
          rw [hY] at HYY
          have HYB := Aside0.mk (show w4.heap[m]? = some (.cells #[.int .i64 v, .slice (some ⟨g, 0, none⟩) ts.length cap, .int .i64 nx] 28 (0, 0)) from HYY.out)
          clear HYY HY hY
          have HP3 := Lib.hid (fun W (hb : Below w.heap.size w W) => rbyid_calls v ts nx table hn A c W hc (Kd.C_below HC.out hb))
          rw [HP.out] at HP3
          have x0 := blk_cell (j := 0) (v := .int .i64 v) HX3.out.b0 rfl
          have x1 := blk_cell (j := 1) (v := .slice A ts.length c) HX3.out.b0 rfl
          have x2 := blk_cell (j := 2) (v := .int .i64 nx) HX3.out.b0 rfl
          have y1 := blk_cell (j := 1) (v := .slice (some ⟨g, 0, none⟩) ts.length cap) HYB.out rfl
          have HH := Aside0.mk (HeldY.new (w := w) (W0 := w4) x0 x1 x2 y1)
          clear x0 x1 x2 y1
          go_region_held3 (fun W => Below w4.heap.size w4 W ∧ W.cell? ⟨w.heap.size, 0, none⟩ = some (.int .i64 v) ∧ W.cell? ⟨w.heap.size, 1, none⟩ = some (.slice A ts.length c) ∧ W.cell? ⟨w.heap.size, 2, none⟩ = some (.int .i64 nx) ∧ W.cell? ⟨m, 1, none⟩ = some (.slice (some ⟨g, 0, none⟩) ts.length cap))
            (first | exact HH.out | exact HeldY.step (m := m) ⟨by assumption, by assumption, by assumption, by assumption, by assumption⟩ hbq)
            (first | (go_at_call 65; go_split_ands; refine (HP3.out _ (below_then HX3.out.below HX3.out.below.size (by assumption))).mono ?_; rintro e w5 ⟨rfl, hbq⟩))
          rename_i hHeld
          obtain ⟨hb5, -, -, -, -⟩ := hHeld
          have HX5 := Aside0.mk (HX3.out.step hb5)
          have HY5 := Aside0.mk (blk_below HYB.out hb5)
          obtain ⟨oki, cv, iv, hL⟩ := lend (Kd.S_below HS3.out hb5) hk
          rw [HTE.out] at hL
          have HL5 := Aside0.mk hL
          clear hb5 HS3 HX3 HYB HH HP3 hL
          obtain ⟨Ac, cc, hcv, lcc, hCc⟩ := Kd.R_reads HL5.out.cols
          obtain ⟨Ai, ci, hiv, lci, hCi⟩ := Kd.R_reads HL5.out.inds
          subst hcv hiv
          have a0 := HL5.out.cell 0 rfl
          have a1 := HL5.out.cell 1 rfl
          have a2 := HL5.out.cell 2 rfl
          have a3 := HL5.out.cell 3 rfl
          have a4 := HL5.out.cell 4 rfl
          rw [Nat.add_zero] at a0
          have HCI := Lib.hid (rcolumn_calls t (by have := (tableB_lens HTB.out).2.1; omega) elem Ac cc Ai ci w5 lcc hCc lci hCi)
          rw [hcz] at HCI
          go_wp2_with fail
          refine HCI.out.mono ?_
          rintro e w5b ⟨rfl, hb5b⟩
          have HX5b := Aside0.mk (HX5.out.step hb5b)
          have HY5b := Aside0.mk (blk_below HY5.out hb5b)
          have HL5b := Aside0.mk (HL5.out.step hb5b)
          clear a0 a1 a2 a3 a4 HCI hb5b hCc hCi
          have HR := Lib.hid (show R = noTold 8 by exact HI8.out)
          have HX1 := HX5b
          have f0 := blk_frozen HX1.out.b2 0
          have f1 := blk_frozen HX1.out.b2 1
          have f2 := blk_frozen HX1.out.b2 2
          have c0 := blk_cell (j := 0) (v := .int .i64 0) HX1.out.b2 rfl
          have c1 := blk_cell (j := 1) (v := .slice none 0 0) HX1.out.b2 rfl
          have c2 := blk_cell (j := 2) (v := .int .i64 0) HX1.out.b2 rfl
          clear HI8
          go_wp2
          refine bodyPost_ret (v := .tuple #[.agg #[.int .i64 0, .slice none 0 0, .int .i64 0], .int .i64 8]) (by simp [results, Tryd.results32, go_sem, c0, c1, c2]) rfl (tellse_no HR.out (HX1.out.out _ _ _))
      · have HI6 := Lib.hid (HI5.out.trans (if_neg (fun h => hcz h.2)))
        obtain ⟨ci_, hci⟩ : ∃ x, idxL (cId elem) t.f2 0 = x := ⟨_, rfl⟩
        rw [hci] at hcz
        have hcq : (ci_ == 0) = false := by simpa using hcz
        obtain ⟨us, hus⟩ : ∃ x, usedB elem t.f3 = x := ⟨_, rfl⟩
        have hst1 : st = 1 := by simpa using hq1
        cases us with
        | true =>
          have HI8 := Lib.hid (HI6.out.trans (if_pos ⟨rfl, hst1, hg1, hus⟩))
          clear HI5 HI6 HTA hkk
          rcases hg1 with rfl | rfl
          all_goals
            have x0 := blk_cell (j := 0) (v := .int .i64 v) HX2.out.b0 rfl
            have x1 := blk_cell (j := 1) (v := .slice A ts.length c) HX2.out.b0 rfl
            have x2 := blk_cell (j := 2) (v := .int .i64 nx) HX2.out.b0 rfl
            go_wp2_with fail
            refine (copy_calls v ts nx (schB_small HB.out) A c w2 hc (Kd.C_below HC.out HX2.out.below)).mono ?_
            rintro e w3 ⟨u, rfl, hS, hb3⟩
            have hS' := Kd.S_lower hS HX2.out.below.size
            obtain ⟨g, cap, rfl, -⟩ := Kd.S_form hS' (by omega)
            obtain ⟨Y, hY⟩ : ∃ Y : Obj, Y = .cells #[.int .i64 v, .slice (some ⟨g, 0, none⟩) ts.length cap, .int .i64 nx] 28 := ⟨_, rfl⟩
            have hby := below_alloc (Below.refl _ w3) Y
            have hX3 := HX2.out.step hb3
            have HX3 := Aside0.mk (hX3.step hby)
            have HS3 := Aside0.mk (Kd.S_alloc hS' Y)
            have HY := Aside0.mk (heap_alloc_new w3 Y)
            have hq3 : w.heap.size + 1 < w3.heap.size := lt_of_block hX3.b2
            clear hS hS' hb3 x0 x1 x2 HX2 hby hX3
            rw [hY] at HX3 HS3 HY
            go_wp2_with fail
            rw [← hY]
            rw [← hY] at HX3 HS3 HY
            obtain ⟨m, hm⟩ : ∃ m, m = w3.heap.size := ⟨_, rfl⟩
            rw [← hm] at HY hq3 ⊢
            have HM3 := Lib.hid hm
            generalize w3.alloc Y = w4 at HX3 HS3 HY ⊢
            clear hm
            have HYY := HY
            rw [hY] at HYY
            have HYB := Aside0.mk (show w4.heap[m]? = some (.cells #[.int .i64 v, .slice (some ⟨g, 0, none⟩) ts.length cap, .int .i64 nx] 28 (0, 0)) from HYY.out)
            clear HYY HY hY
            have HP3 := Lib.hid (fun W (hb : Below w.heap.size w W) => rbyid_calls v ts nx table hn A c W hc (Kd.C_below HC.out hb))
            rw [HP.out] at HP3
            have x0 := blk_cell (j := 0) (v := .int .i64 v) HX3.out.b0 rfl
            have x1 := blk_cell (j := 1) (v := .slice A ts.length c) HX3.out.b0 rfl
            have x2 := blk_cell (j := 2) (v := .int .i64 nx) HX3.out.b0 rfl
            have y1 := blk_cell (j := 1) (v := .slice (some ⟨g, 0, none⟩) ts.length cap) HYB.out rfl
            have HH := Aside0.mk (HeldY.new (w := w) (W0 := w4) x0 x1 x2 y1)
            clear x0 x1 x2 y1
            go_region_held3 (fun W => Below w4.heap.size w4 W ∧ W.cell? ⟨w.heap.size, 0, none⟩ = some (.int .i64 v) ∧ W.cell? ⟨w.heap.size, 1, none⟩ = some (.slice A ts.length c) ∧ W.cell? ⟨w.heap.size, 2, none⟩ = some (.int .i64 nx) ∧ W.cell? ⟨m, 1, none⟩ = some (.slice (some ⟨g, 0, none⟩) ts.length cap))
              (first | exact HH.out | exact HeldY.step (m := m) ⟨by assumption, by assumption, by assumption, by assumption, by assumption⟩ hbq)
              (first | (go_at_call 65; go_split_ands; refine (HP3.out _ (below_then HX3.out.below HX3.out.below.size (by assumption))).mono ?_; rintro e w5 ⟨rfl, hbq⟩))
            rename_i hHeld
            obtain ⟨hb5, -, -, -, -⟩ := hHeld
            have HX5 := Aside0.mk (HX3.out.step hb5)
            have HY5 := Aside0.mk (blk_below HYB.out hb5)
            obtain ⟨oki, cv, iv, hL⟩ := lend (Kd.S_below HS3.out hb5) hk
            rw [HTE.out] at hL
            have HL5 := Aside0.mk hL
            clear hb5 HS3 HX3 HYB HH HP3 hL
            obtain ⟨Ac, cc, hcv, lcc, hCc⟩ := Kd.R_reads HL5.out.cols
            obtain ⟨Ai, ci, hiv, lci, hCi⟩ := Kd.R_reads HL5.out.inds
            subst hcv hiv
            have a0 := HL5.out.cell 0 rfl
            have a1 := HL5.out.cell 1 rfl
            have a2 := HL5.out.cell 2 rfl
            have a3 := HL5.out.cell 3 rfl
            have a4 := HL5.out.cell 4 rfl
            rw [Nat.add_zero] at a0
            have HCI := Lib.hid (rcolumn_calls t (by have := (tableB_lens HTB.out).2.1; omega) elem Ac cc Ai ci w5 lcc hCc lci hCi)
            rw [hci] at HCI
            have HCc := Aside0.mk hCc
            have HCi := Aside0.mk hCi
            have HUC := Lib.hid (fun W (hb : Below w5.heap.size w5 W) => rused_calls t (tableB_lens HTB.out).2.2.1 (fun x hx => ((tableB_lens HTB.out).2.2.2 x hx).2) elem Ac cc Ai ci W lcc (Kd.C_below HCc.out hb) lci (Kd.C_below HCi.out hb))
            rw [hus] at HUC
            go_wp2_with fail
            refine HCI.out.mono ?_
            rintro e w5b ⟨rfl, hb5b⟩
            have HX5b := Aside0.mk (HX5.out.step hb5b)
            have HY5b := Aside0.mk (blk_below HY5.out hb5b)
            have HL5b := Aside0.mk (HL5.out.step hb5b)
            have HB5b := Aside0.mk hb5b
            clear a0 a1 a2 a3 a4 HCI hb5b hCc hCi
            have a0 := HL5b.out.cell 0 rfl
            have a1 := HL5b.out.cell 1 rfl
            have a2 := HL5b.out.cell 2 rfl
            have a3 := HL5b.out.cell 3 rfl
            have a4 := HL5b.out.cell 4 rfl
            rw [Nat.add_zero] at a0
            go_wp2_with fail
            refine (HUC.out _ HB5b.out).mono ?_
            rintro e w5c ⟨rfl, hb5c⟩
            have HX5c := Aside0.mk (HX5b.out.step hb5c)
            have HY5c := Aside0.mk (blk_below HY5b.out hb5c)
            have HL5c := Aside0.mk (HL5b.out.step hb5c)
            clear a0 a1 a2 a3 a4 hb5c HUC
            have HR := Lib.hid (show R = noTold 18 by exact HI8.out)
            have HX1 := HX5c
            have f0 := blk_frozen HX1.out.b2 0
            have f1 := blk_frozen HX1.out.b2 1
            have f2 := blk_frozen HX1.out.b2 2
            have c0 := blk_cell (j := 0) (v := .int .i64 0) HX1.out.b2 rfl
            have c1 := blk_cell (j := 1) (v := .slice none 0 0) HX1.out.b2 rfl
            have c2 := blk_cell (j := 2) (v := .int .i64 0) HX1.out.b2 rfl
            clear HI8
            go_wp2
            refine bodyPost_ret (v := .tuple #[.agg #[.int .i64 0, .slice none 0 0, .int .i64 0], .int .i64 18]) (by simp [results, Tryd.results32, go_sem, c0, c1, c2]) rfl (tellse_no HR.out (HX1.out.out _ _ _))
        | false =>
          have HR6 := Lib.hid (HI6.out.trans (if_neg (by rintro ⟨-, -, -, h⟩; rw [hus] at h; cases h)))
          clear HI5 HI6 hkk
          rcases hg1 with rfl | rfl
          all_goals
            have x0 := blk_cell (j := 0) (v := .int .i64 v) HX2.out.b0 rfl
            have x1 := blk_cell (j := 1) (v := .slice A ts.length c) HX2.out.b0 rfl
            have x2 := blk_cell (j := 2) (v := .int .i64 nx) HX2.out.b0 rfl
            go_wp2_with fail
            refine (copy_calls v ts nx (schB_small HB.out) A c w2 hc (Kd.C_below HC.out HX2.out.below)).mono ?_
            rintro e w3 ⟨u, rfl, hS, hb3⟩
            have hS' := Kd.S_lower hS HX2.out.below.size
            obtain ⟨g, cap, rfl, -⟩ := Kd.S_form hS' (by omega)
            obtain ⟨Y, hY⟩ : ∃ Y : Obj, Y = .cells #[.int .i64 v, .slice (some ⟨g, 0, none⟩) ts.length cap, .int .i64 nx] 28 := ⟨_, rfl⟩
            have hby := below_alloc (Below.refl _ w3) Y
            have hX3 := HX2.out.step hb3
            have HX3 := Aside0.mk (hX3.step hby)
            have HS3 := Aside0.mk (Kd.S_alloc hS' Y)
            have HY := Aside0.mk (heap_alloc_new w3 Y)
            have hq3 : w.heap.size + 1 < w3.heap.size := lt_of_block hX3.b2
            clear hS hS' hb3 x0 x1 x2 HX2 hby hX3
            rw [hY] at HX3 HS3 HY
            go_wp2_with fail
            rw [← hY]
            rw [← hY] at HX3 HS3 HY
            obtain ⟨m, hm⟩ : ∃ m, m = w3.heap.size := ⟨_, rfl⟩
            rw [← hm] at HY hq3 ⊢
            have HM3 := Lib.hid hm
            generalize w3.alloc Y = w4 at HX3 HS3 HY ⊢
            clear hm
            have HYY := HY
            rw [hY] at HYY
            have HYB := Aside0.mk (show w4.heap[m]? = some (.cells #[.int .i64 v, .slice (some ⟨g, 0, none⟩) ts.length cap, .int .i64 nx] 28 (0, 0)) from HYY.out)
            clear HYY HY hY
            have HP3 := Lib.hid (fun W (hb : Below w.heap.size w W) => rbyid_calls v ts nx table hn A c W hc (Kd.C_below HC.out hb))
            rw [HP.out] at HP3
            have x0 := blk_cell (j := 0) (v := .int .i64 v) HX3.out.b0 rfl
            have x1 := blk_cell (j := 1) (v := .slice A ts.length c) HX3.out.b0 rfl
            have x2 := blk_cell (j := 2) (v := .int .i64 nx) HX3.out.b0 rfl
            have y1 := blk_cell (j := 1) (v := .slice (some ⟨g, 0, none⟩) ts.length cap) HYB.out rfl
            have HH := Aside0.mk (HeldY.new (w := w) (W0 := w4) x0 x1 x2 y1)
            clear x0 x1 x2 y1
            go_region_held3 (fun W => Below w4.heap.size w4 W ∧ W.cell? ⟨w.heap.size, 0, none⟩ = some (.int .i64 v) ∧ W.cell? ⟨w.heap.size, 1, none⟩ = some (.slice A ts.length c) ∧ W.cell? ⟨w.heap.size, 2, none⟩ = some (.int .i64 nx) ∧ W.cell? ⟨m, 1, none⟩ = some (.slice (some ⟨g, 0, none⟩) ts.length cap))
              (first | exact HH.out | exact HeldY.step (m := m) ⟨by assumption, by assumption, by assumption, by assumption, by assumption⟩ hbq)
              (first | (go_at_call 65; go_split_ands; refine (HP3.out _ (below_then HX3.out.below HX3.out.below.size (by assumption))).mono ?_; rintro e w5 ⟨rfl, hbq⟩))
            rename_i hHeld
            obtain ⟨hb5, -, -, -, -⟩ := hHeld
            have HX5 := Aside0.mk (HX3.out.step hb5)
            have HY5 := Aside0.mk (blk_below HYB.out hb5)
            obtain ⟨oki, cv, iv, hL⟩ := lend (Kd.S_below HS3.out hb5) hk
            rw [HTE.out] at hL
            have HL5 := Aside0.mk hL
            clear hb5 HS3 HX3 HYB HH HP3 hL
            obtain ⟨Ac, cc, hcv, lcc, hCc⟩ := Kd.R_reads HL5.out.cols
            obtain ⟨Ai, ci, hiv, lci, hCi⟩ := Kd.R_reads HL5.out.inds
            subst hcv hiv
            have a0 := HL5.out.cell 0 rfl
            have a1 := HL5.out.cell 1 rfl
            have a2 := HL5.out.cell 2 rfl
            have a3 := HL5.out.cell 3 rfl
            have a4 := HL5.out.cell 4 rfl
            rw [Nat.add_zero] at a0
            have HCI := Lib.hid (rcolumn_calls t (by have := (tableB_lens HTB.out).2.1; omega) elem Ac cc Ai ci w5 lcc hCc lci hCi)
            rw [hci] at HCI
            have HCc := Aside0.mk hCc
            have HCi := Aside0.mk hCi
            have HUC := Lib.hid (fun W (hb : Below w5.heap.size w5 W) => rused_calls t (tableB_lens HTB.out).2.2.1 (fun x hx => ((tableB_lens HTB.out).2.2.2 x hx).2) elem Ac cc Ai ci W lcc (Kd.C_below HCc.out hb) lci (Kd.C_below HCi.out hb))
            rw [hus] at HUC
            go_wp2_with fail
            refine HCI.out.mono ?_
            rintro e w5b ⟨rfl, hb5b⟩
            have HX5b := Aside0.mk (HX5.out.step hb5b)
            have HY5b := Aside0.mk (blk_below HY5.out hb5b)
            have HL5b := Aside0.mk (HL5.out.step hb5b)
            have HB5b := Aside0.mk hb5b
            clear a0 a1 a2 a3 a4 HCI hb5b hCc hCi
            have a0 := HL5b.out.cell 0 rfl
            have a1 := HL5b.out.cell 1 rfl
            have a2 := HL5b.out.cell 2 rfl
            have a3 := HL5b.out.cell 3 rfl
            have a4 := HL5b.out.cell 4 rfl
            rw [Nat.add_zero] at a0
            go_wp2_with fail
            refine (HUC.out _ HB5b.out).mono ?_
            rintro e w5c ⟨rfl, hb5c⟩
            have HX5c := Aside0.mk (HX5b.out.step hb5c)
            have HY5c := Aside0.mk (blk_below HY5b.out hb5c)
            have HL5c := Aside0.mk (HL5b.out.step hb5c)
            clear a0 a1 a2 a3 a4 hb5c HUC
            have HUU := Lib.hid (HTA.out _ g cap oki _ _ HX5c.out.below HL5c.out)
            go_wp2_with fail
            refine HUU.out.mono ?_
            rintro e w6 ⟨rfl, hS6, hT6⟩
            have HX6 := Aside0.mk (HX5c.out.tch hT6)
            have hY6 := hT6.box HY5c.out
            have y0 := blk_cell (j := 0) (v := .int .i64 v) hY6 rfl
            have yf := blk_frozen hY6 0
            have hX7 := HX6.out.far (j := 0) hq3 (.int .i64 (v + 1))
            have hY7 := blk_put hY6 0 (.int .i64 (v + 1)) rfl
            have hS7 := Kd.S_set hS6 hY6 (by decide) 0 (.int .i64 (v + 1))
            have y1 := blk_cell (j := 1) (v := .slice (some ⟨g, 0, none⟩) ts.length cap) hY6 rfl
            have y2 := blk_cell (j := 2) (v := .int .i64 nx) hY6 rfl
            have f0 := blk_frozen HX6.out.b2 0
            have f1 := blk_frozen HX6.out.b2 1
            have f2 := blk_frozen HX6.out.b2 2
            have c0 := blk_cell (j := 0) (v := .int .i64 0) HX6.out.b2 rfl
            have c1 := blk_cell (j := 1) (v := .slice none 0 0) HX6.out.b2 rfl
            have c2 := blk_cell (j := 2) (v := .int .i64 0) HX6.out.b2 rfl
            have n1 : m ≠ w.heap.size + 1 := by omega
            have n2 : w.heap.size + 1 ≠ m := by omega
            have hlen : (ts.set k (T')).length = ts.length := List.length_set
            rw [← hlen] at hS7
            have HFIN := Aside0.mk (And.intro (S_set3 (a := .int .i64 (v + 1)) (b := .slice (some ⟨g, 0, none⟩) ts.length cap) (c := .int .i64 nx) hS7 hX7.b2) (hX7.out (.int .i64 (v + 1)) (.slice (some ⟨g, 0, none⟩) ts.length cap) (.int .i64 nx)))
            rw [hlen] at HFIN
            clear hS6 hT6 HUU hY6 hX7 hY7 hS7 hlen
            go_wp2
            refine bodyPost_ret (v := .tuple #[.agg #[.int .i64 (v + 1), .slice (some ⟨g, 0, none⟩) ts.length cap, .int .i64 nx], .int .i64 0]) (by simp [results, Tryd.results32, go_sem, c0, c1, c2, y0, y1, y2]) rfl ?_
            have hfin := tellse_ok (w := w) (R := R) (v := v + 1) (nx := nx) (ts := ts.set k (T')) (by rw [HR6.out]) (Kd.S_R HFIN.out.1) HFIN.out.2
            exact hfin
end Go.Proofs.YtjgomlcdmpcoaaaDoor.H
namespace Go.Proofs.YtjgomlcdmpcoaaaDoor.H
open Go.RowKit Go.Proofs.YtjgomlcdmpcoaaaDoorW.PrintWords Go.Proofs.YtjgomlcdmpcoaaaDoorW.PrintLast Go.Proofs.YtjgomlcdmpcoaaaDoorW.PrintMore
open Go.Proofs.YtjgomlcdmpcoaaaDoor.D Go.Proofs.YtjgomlcdmpcoaaaDoor
set_option linter.unusedVariables false
set_option linter.unusedSimpArgs false
set_option maxRecDepth 100000 in
set_option maxHeartbeats 4000000 in
theorem ints_eq (l : List Int) (A B : Option Addr) (c d : Nat) (w : World) (hA : (Kd.int .i64).C w A l.length l) (hB : (Kd.int .i64).C w B l.length l) :
    Calls Tryd.prog 111 #[.slice A l.length c, .slice B l.length d] w fun e w' => e = .returned (.bool true) ∧ Below w.heap.size w w' := by
  have HA := Aside0.mk hA
  have HB := Aside0.mk hB
  have big := hA.2.1
  clear hA hB
  go_enter Tryd.func111, Tryd.ntmps111
  go_wp2_with fail
  go_loopg [5] l.length (fun gg u3 wr => ∃ k : Nat, k ≤ l.length ∧ l.length - k ≤ gg ∧ u3 = .int .i64 k ∧ Aside0 (Below w.heap.size w wr))
  case atStart => exact ⟨0, Nat.zero_le _, by omega, rfl, ⟨Below.refl _ _⟩⟩
  case round =>
    obtain ⟨k, hk, hg, rfl, HT⟩ := hrel
    by_cases hlt : k < l.length
    · have hltz : (k : Int) < (l.length : Int) := by omega
      have hk0 : (0 : Int) ≤ (k : Int) := by omega
      obtain ⟨ad, eA, p0⟩ := Kd.at_int (Kd.C_below HA.out HT.out) (k : Int) (by omega) (by omega)
      cases eA
      obtain ⟨bd, eB, q0⟩ := Kd.at_int (Kd.C_below HB.out HT.out) (k : Int) (by omega) (by omega)
      cases eB
      simp only [Int.toNat_natCast] at p0 q0
      go_wp2_with fail
      go_quiet (fail)
      go_wp2
      go_roundg (l.length - (k + 1))
      case measure => omega
      case rel => exact ⟨k + 1, by omega, by omega, by go_num, ⟨pw_below_drewN HT.out _⟩⟩
    · have hltz : ¬ (k : Int) < (l.length : Int) := by omega
      go_wp2
      go_ret
      exact ⟨rfl, HT.out⟩
structure SmSt (w wr : World) (b1 b2 : Array Value) : Prop where
  below : Below w.heap.size w wr
  x1 : wr.heap[w.heap.size]? = some (.cells b1 70 (0, 0))
  x2 : wr.heap[w.heap.size + 1]? = some (.cells b2 70 (0, 0))
theorem SmSt.step {w wr w' : World} {b1 b2 : Array Value} (h : SmSt w wr b1 b2) (hb : Below wr.heap.size wr w') : SmSt w w' b1 b2 :=
  ⟨below_then h.below h.below.size hb, blk_below h.x1 hb, blk_below h.x2 hb⟩
theorem SmSt.drew {w wr : World} {b1 b2 : Array Value} (h : SmSt w wr b1 b2) (n : Nat) : SmSt w (wr.drewN n) b1 b2 := h.step (pw_below_drewN (Below.refl _ _) n)
theorem SmSt.new (w : World) (b1 b2 : Array Value) : SmSt w ((w.alloc (.cells b1 70)).alloc (.cells b2 70)) b1 b2 := by
  refine ⟨below_alloc (below_alloc (Below.refl _ _) _) _, blk_alloc (heap_alloc_new w _) _, ?_⟩
  have := heap_alloc_new (w.alloc (.cells b1 70)) (.cells b2 70)
  simpa using this
set_option maxRecDepth 100000 in
set_option maxHeartbeats 16000000 in
theorem sametab_eq (t : S70) (A2 B2 A3 B3 : Option Addr) (c2 d2 c3 d3 : Nat) (w : World) (hA2 : k75.C w A2 t.f2.length t.f2) (hB2 : k75.C w B2 t.f2.length t.f2) (hA3 : k98.C w A3 t.f3.length t.f3) (hB3 : k98.C w B3 t.f3.length t.f3) :
    Calls Tryd.prog 56 #[.agg #[.int .i64 t.f0, .string t.f1, .slice A2 t.f2.length c2, .slice A3 t.f3.length c3, .int .i64 t.f4], .agg #[.int .i64 t.f0, .string t.f1, .slice B2 t.f2.length d2, .slice B3 t.f3.length d3, .int .i64 t.f4]] w fun e w' => e = .returned (.bool true) ∧ Below w.heap.size w w' := by
  have HA2 := Aside0.mk hA2
  have HB2 := Aside0.mk hB2
  have HA3 := Aside0.mk hA3
  have HB3 := Aside0.mk hB3
  have big2 := hA2.2.1
  have big3 := hA3.2.1
  have HS := Aside0.mk (SmSt.new w #[.int .i64 t.f0, .string t.f1, .slice A2 t.f2.length c2, .slice A3 t.f3.length c3, .int .i64 t.f4] #[.int .i64 t.f0, .string t.f1, .slice B2 t.f2.length d2, .slice B3 t.f3.length d3, .int .i64 t.f4])
  clear hA2 hB2 hA3 hB3
  go_enter Tryd.func56, Tryd.ntmps56
  go_wp2_with fail
  go_loopg [5] t.f2.length (fun gg u5 wr => ∃ k : Nat, k ≤ t.f2.length ∧ t.f2.length - k ≤ gg ∧ u5 = .int .i64 k ∧ Aside0 (SmSt w wr #[.int .i64 t.f0, .string t.f1, .slice A2 t.f2.length c2, .slice A3 t.f3.length c3, .int .i64 t.f4] #[.int .i64 t.f0, .string t.f1, .slice B2 t.f2.length d2, .slice B3 t.f3.length d3, .int .i64 t.f4]))
  case atStart => exact ⟨0, Nat.zero_le _, by omega, rfl, HS⟩
  case round =>
    obtain ⟨k, hk, hg, rfl, HT⟩ := hrel
    clear HS
    have k2 := (Go.Proofs.YtjgomlcdmpcoaaaDoorW.PrintWords.blk_cell HT.out.x1 2).trans (rfl : _ = some (Value.slice A2 t.f2.length c2))
    have j2 := (Go.Proofs.YtjgomlcdmpcoaaaDoorW.PrintWords.blk_cell HT.out.x2 2).trans (rfl : _ = some (Value.slice B2 t.f2.length d2))
    by_cases hlt : k < t.f2.length
    · have hltz : (k : Int) < (t.f2.length : Int) := by omega
      have hk0 : (0 : Int) ≤ (k : Int) := by omega
      obtain ⟨ad, eA, p0, p1, p2, p3, p4, p5, p6, p7, p8⟩ := at_T75 (Kd.C_below HA2.out HT.out.below) (k : Int) (by omega) (by omega)
      cases eA
      obtain ⟨bd, eB, q0, q1, q2, q3, q4, q5, q6, q7, q8⟩ := at_T75 (Kd.C_below HB2.out HT.out.below) (k : Int) (by omega) (by omega)
      cases eB
      simp only [Int.toNat_natCast] at p0 p1 p2 p3 p4 p5 p6 p7 p8 q0 q1 q2 q3 q4 q5 q6 q7 q8
      generalize rd_T75 t.f2 (k : Int) = c at p0 p1 p2 p3 p4 p5 p6 p7 p8 q0 q1 q2 q3 q4 q5 q6 q7 q8
      go_wp2_with fail
      go_quiet (fail)
      go_wp2
      go_roundg (t.f2.length - (k + 1))
      case measure => omega
      case rel => exact ⟨k + 1, by omega, by omega, by go_num, ⟨HT.out.drew _⟩⟩
    · have hltz : ¬ (k : Int) < (t.f2.length : Int) := by omega
      have HS := HT
      clear HT
      have k3 := (Go.Proofs.YtjgomlcdmpcoaaaDoorW.PrintWords.blk_cell HS.out.x1 3).trans (rfl : _ = some (Value.slice A3 t.f3.length c3))
      have j3 := (Go.Proofs.YtjgomlcdmpcoaaaDoorW.PrintWords.blk_cell HS.out.x2 3).trans (rfl : _ = some (Value.slice B3 t.f3.length d3))
      obtain ⟨wo, hwo⟩ : ∃ wo : World, wo = wr := ⟨_, rfl⟩
      subst hwo
      go_wp2_with fail
      go_loopg [6] t.f3.length (fun gg u6 wr => ∃ k : Nat, k ≤ t.f3.length ∧ t.f3.length - k ≤ gg ∧ u6 = .int .i64 k ∧ Aside0 (SmSt w wr #[.int .i64 t.f0, .string t.f1, .slice A2 t.f2.length c2, .slice A3 t.f3.length c3, .int .i64 t.f4] #[.int .i64 t.f0, .string t.f1, .slice B2 t.f2.length d2, .slice B3 t.f3.length d3, .int .i64 t.f4]))
      case atStart => exact ⟨0, Nat.zero_le _, by omega, rfl, HS⟩
      case round =>
        obtain ⟨k, hk, hg, rfl, HT⟩ := hrel
        clear HS k2 j2 k3 j3
        have k3 := (Go.Proofs.YtjgomlcdmpcoaaaDoorW.PrintWords.blk_cell HT.out.x1 3).trans (rfl : _ = some (Value.slice A3 t.f3.length c3))
        have j3 := (Go.Proofs.YtjgomlcdmpcoaaaDoorW.PrintWords.blk_cell HT.out.x2 3).trans (rfl : _ = some (Value.slice B3 t.f3.length d3))
        by_cases hlt : k < t.f3.length
        · have hltz : (k : Int) < (t.f3.length : Int) := by omega
          have hk0 : (0 : Int) ≤ (k : Int) := by omega
          obtain ⟨ad, X2, x2, eA, p0, p1, p2, p3, p4, lA, gA⟩ := at_T98 (Kd.C_below HA3.out HT.out.below) (k : Int) (by omega) (by omega)
          cases eA
          obtain ⟨bd, Y2, y2, eB, q0, q1, q2, q3, q4, lB, gB⟩ := at_T98 (Kd.C_below HB3.out HT.out.below) (k : Int) (by omega) (by omega)
          cases eB
          simp only [Int.toNat_natCast] at p0 p1 p2 p3 p4 q0 q1 q2 q3 q4
          generalize rd_T98 t.f3 (k : Int) = c at p0 p1 p2 p3 p4 q0 q1 q2 q3 q4 lA gA lB gB
          have HCI := Lib.hid (fun w' (hb : Below wr.heap.size wr w') => ints_eq c.f2 X2 Y2 x2 y2 w' (Kd.C_below gA hb) (Kd.C_below gB hb))
          clear lA gA lB gB
          have l1 : w.heap.size < wr.heap.size := lt_of_block HT.out.x1
          have l2 : w.heap.size + 1 < wr.heap.size := lt_of_block HT.out.x2
          have l3 := World.block_lt_of_cell? wr _ p0
          have l4 := World.block_lt_of_cell? wr _ q0
          go_wp2_with fail
          go_region
          all_goals
            go_wp2_with fail
            have hBw : ∀ (a b : Obj), Below wr.heap.size wr ((wr.alloc a).alloc b).drew := fun a b => below_drew (below_alloc (below_alloc (Below.refl _ _) _) _)
            have hSz : ∀ (a b : Obj), wr.heap.size ≤ ((wr.alloc a).alloc b).drew.heap.size := fun a b => (hBw a b).size
            refine (HCI.out _ (hBw _ _)).mono ?_
            rintro e w3 ⟨rfl, hb3⟩
            have HT3 := Aside0.mk (HT.out.step (below_then (hBw _ _) (hSz _ _) hb3))
            clear hb3 hBw hSz p0 p1 p2 p3 p4 q0 q1 q2 q3 q4 k3 j3 l1 l2 l3 l4 HT
            go_wp2
            go_roundg (t.f3.length - (k + 1))
            case measure => omega
            case rel => exact ⟨k + 1, by omega, by omega, by go_num, HT3⟩
        · have hltz : ¬ (k : Int) < (t.f3.length : Int) := by omega
          go_wp2
          go_ret
          exact ⟨rfl, HT.out.below⟩
end Go.Proofs.YtjgomlcdmpcoaaaDoor.H
namespace Go.Proofs.YtjgomlcdmpcoaaaDoor.H
open Go.RowKit Go.Proofs.YtjgomlcdmpcoaaaDoorW.PrintWords Go.Proofs.YtjgomlcdmpcoaaaDoorW.PrintLast Go.Proofs.YtjgomlcdmpcoaaaDoorW.PrintMore
open Go.Proofs.YtjgomlcdmpcoaaaDoor.D Go.Proofs.YtjgomlcdmpcoaaaDoor
set_option linter.unusedVariables false
set_option linter.unusedSimpArgs false
structure SsSt (w wr : World) (b1 b2 : Array Value) : Prop where
  below : Below w.heap.size w wr
  x1 : wr.heap[w.heap.size]? = some (.cells b1 28 (0, 0))
  x2 : wr.heap[w.heap.size + 1]? = some (.cells b2 28 (0, 0))
theorem SsSt.step {w wr w' : World} {b1 b2 : Array Value} (h : SsSt w wr b1 b2) (hb : Below wr.heap.size wr w') : SsSt w w' b1 b2 :=
  ⟨below_then h.below h.below.size hb, blk_below h.x1 hb, blk_below h.x2 hb⟩
theorem SsSt.new (w : World) (b1 b2 : Array Value) : SsSt w ((w.alloc (.cells b1 28)).alloc (.cells b2 28)) b1 b2 := by
  refine ⟨below_alloc (below_alloc (Below.refl _ _) _) _, blk_alloc (heap_alloc_new w _) _, ?_⟩
  have := heap_alloc_new (w.alloc (.cells b1 28)) (.cells b2 28)
  simpa using this
set_option maxRecDepth 100000 in
set_option maxHeartbeats 16000000 in
theorem same_eq (v nx : Int) (ts : List S70) (A B : Option Addr) (c d : Nat) (w : World) (hA : k70.C w A ts.length ts) (hB : k70.C w B ts.length ts) :
    Calls Tryd.prog 45 #[.agg #[.int .i64 v, .slice A ts.length c, .int .i64 nx], .agg #[.int .i64 v, .slice B ts.length d, .int .i64 nx]] w fun e w' => e = .returned (.bool true) ∧ Below w.heap.size w w' := by
  have HA := Aside0.mk hA
  have HB := Aside0.mk hB
  have big := hA.2.1
  have HS := Aside0.mk (SsSt.new w #[.int .i64 v, .slice A ts.length c, .int .i64 nx] #[.int .i64 v, .slice B ts.length d, .int .i64 nx])
  clear hA hB
  go_enter Tryd.func45, Tryd.ntmps45
  go_wp2_with fail
  go_loopg [5] ts.length (fun gg u5 wr => ∃ k : Nat, k ≤ ts.length ∧ ts.length - k ≤ gg ∧ u5 = .int .i64 k ∧ Aside0 (SsSt w wr #[.int .i64 v, .slice A ts.length c, .int .i64 nx] #[.int .i64 v, .slice B ts.length d, .int .i64 nx]))
  case atStart => exact ⟨0, Nat.zero_le _, by omega, rfl, HS⟩
  case round =>
    obtain ⟨k, hk, hg, rfl, HT⟩ := hrel
    clear HS
    have k1 := (Go.Proofs.YtjgomlcdmpcoaaaDoorW.PrintWords.blk_cell HT.out.x1 1).trans (rfl : _ = some (Value.slice A ts.length c))
    have j1 := (Go.Proofs.YtjgomlcdmpcoaaaDoorW.PrintWords.blk_cell HT.out.x2 1).trans (rfl : _ = some (Value.slice B ts.length d))
    by_cases hlt : k < ts.length
    · have hltz : (k : Int) < (ts.length : Int) := by omega
      have hk0 : (0 : Int) ≤ (k : Int) := by omega
      obtain ⟨ad, A2, a2, A3, a3, eA, p0, p1, p2, p3, p4, la2, ga2, la3, ga3⟩ := at_T70 (Kd.C_below HA.out HT.out.below) (k : Int) (by omega) (by omega)
      cases eA
      obtain ⟨bd, B2, b2, B3, b3, eB, q0, q1, q2, q3, q4, lb2, gb2, lb3, gb3⟩ := at_T70 (Kd.C_below HB.out HT.out.below) (k : Int) (by omega) (by omega)
      cases eB
      simp only [Int.toNat_natCast] at p0 p1 p2 p3 p4 q0 q1 q2 q3 q4
      generalize rd_T70 ts (k : Int) = t at p0 p1 p2 p3 p4 q0 q1 q2 q3 q4 la2 ga2 la3 ga3 lb2 gb2 lb3 gb3
      have HC := Lib.hid (fun w' (hb : Below wr.heap.size wr w') => sametab_eq t A2 B2 A3 B3 a2 b2 a3 b3 w' (Kd.C_below ga2 hb) (Kd.C_below gb2 hb) (Kd.C_below ga3 hb) (Kd.C_below gb3 hb))
      clear la2 ga2 la3 ga3 lb2 gb2 lb3 gb3
      go_wp2_with fail
      go_region_law ((go_simp; go_at_call 56; refine (HC.out _ (below_drew (Below.refl _ _))).mono ?_; rintro e w2 ⟨rfl, hb0⟩; have hb2 := below_of_drew' hb0))
      all_goals
        have HT3 := Aside0.mk (HT.out.step hb2)
        clear hb2 p0 p1 p2 p3 p4 q0 q1 q2 q3 q4 k1 j1 HT
        go_wp2
        go_roundg (ts.length - (k + 1))
        case measure => omega
        case rel => exact ⟨k + 1, by omega, by omega, by go_num, HT3⟩
    · have hltz : ¬ (k : Int) < (ts.length : Int) := by omega
      go_wp2
      go_ret
      exact ⟨rfl, HT.out.below⟩
end Go.Proofs.YtjgomlcdmpcoaaaDoor.H
