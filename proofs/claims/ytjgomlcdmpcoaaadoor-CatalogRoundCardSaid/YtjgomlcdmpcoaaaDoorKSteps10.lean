/- Own texts of this session, packed by its program wip/pp/pack.py: lemmas and walks of functions. -/
import Derived.Test.YtjgomlcdmpcoaaaDoorKSteps7
import Derived.Test.YtjgomlcdmpcoaaaDoorKSteps8
import Derived.Test.YtjgomlcdmpcoaaaDoorKSteps9
namespace Go.Proofs.YtjgomlcdmpcoaaaDoor.H
open Go.RowKit Go.Proofs.YtjgomlcdmpcoaaaDoorW.PrintWords Go.Proofs.YtjgomlcdmpcoaaaDoorW.PrintLast Go.Proofs.YtjgomlcdmpcoaaaDoorW.PrintMore
open Go.Proofs.YtjgomlcdmpcoaaaDoor.D Go.Proofs.YtjgomlcdmpcoaaaDoor
set_option linter.unusedVariables false
set_option linter.unusedSimpArgs false
set_option maxRecDepth 100000 in
set_option maxHeartbeats 8000000 in
theorem turnC_up (w0 W : World) (g n cap : Nat) (ts : List S70) (i : Nat) (oki : Nat → Prop) (t : S70) (cv iv : Value) (gi m c E k : Nat) (hB : Below w0.heap.size w0 W) (hL : Lent W w0.heap.size g n cap ts i oki t cv iv) (ht : tableB t = true) (hv : cv = .slice (some ⟨gi, 0, none⟩) m c) (hk : k < t.f2.length)
    (hE : ElemOk E ⟨g, i * 5, none⟩ ⟨gi, k * 9 + 3, none⟩ k false false W) :
    Calls Tryd.prog 108 #[.pointer (some ⟨E, 0, none⟩), .bool true] W (TurnPost w0 W g n cap ts i (turnCE t k true) (turnC t k ((rd_T75 t.f2 (k : Int)).f3 + byI true))) := by
  obtain ⟨m2, m3, m4, m5⟩ := tableB_lens ht
  have hE' : W.heap[E]? = some (.cells #[.pointer (some ⟨g, i * 5, none⟩), .pointer (some ⟨gi, k * 9 + 3, none⟩), .int .i64 k, .bool false, .bool false] 148 (0, 0)) := hE
  have hHE := Aside0.mk hE'
  subst hv
  obtain rfl : m = t.f2.length := (Kd.R_reads' hL.cols).1
  have h0 := blk_cell (j := 0) (v := .pointer (some ⟨g, i * 5, none⟩)) hE' rfl
  have h1 := blk_cell (j := 1) (v := .pointer (some ⟨gi, k * 9 + 3, none⟩)) hE' rfl
  have h2 := blk_cell (j := 2) (v := .int .i64 k) hE' rfl
  have h3 := blk_cell (j := 3) (v := .bool false) hE' rfl
  have h4 := blk_cell (j := 4) (v := .bool false) hE' rfl
  have hU := (⟨hL, Tch.refl _ _, hB.size⟩ : UpdSt w0 W W g n cap ts i oki t _ _)
  have hst : (rd_T75 t.f2 (k : Int)) = t.f2[k] := rd75 _ _ hk
  obtain ⟨cz, hcl, hM, hcc, hfr⟩ := Kd.R_elem hL.cols z75 (k : Int) (by omega) (by omega)
  rw [show t.f2.getD (k : Int).toNat z75 = t.f2[k] by simp [List.getD, hk]] at hM
  obtain rfl := k75_openM hM
  have e4 : W.cell? ⟨gi, k * 9 + 3, none⟩ = some (.int .i64 t.f2[k].f3) := hcc 3 _ rfl
  have f4 : W.frozen? ⟨gi, k * 9 + 3, none⟩ = false := hfr 3
  have e0 : W.cell? ⟨gi, k * 9, none⟩ = some (.int .i64 t.f2[k].f0) := hcc 0 _ rfl
  obtain ⟨st, hs⟩ : ∃ st, t.f2[k].f3 = st := ⟨_, rfl⟩
  obtain ⟨id, hid⟩ : ∃ id, t.f2[k].f0 = id := ⟨_, rfl⟩
  have hst4 : 0 ≤ st ∧ st ≤ 4 := by
    have hb := tcolsB_all _ _ _ (by unfold tableB at ht; simp only [Bool.and_eq_true] at ht; exact ht.2.2.2.2.2.2.1) t.f2[k] (List.getElem_mem hk)
    unfold columnB stateB at hb
    simp only [Bool.and_eq_true, decide_eq_true_eq] at hb
    omega
  have HU := Aside0.mk hU
  have HB := Aside0.mk hB
  have hlc := (Kd.R_reads' hL.cols).2.1
  have hne : g ≠ gi := fun e => hL.oki_ne gi (hL.cols.1 gi (by simp [Value.ownBlock])) e.symm
  obtain ⟨gcs, hgb⟩ := hL.blk
  obtain ⟨ics, hib⟩ := Kd.R_typed hL.cols gi (by simp [Value.ownBlock])
  have hEg : E ≠ g := (blk_ne hE' hgb (by decide))
  have hEi : E ≠ gi := (blk_ne hE' hib (by decide))
  have a2 := hL.cell 2 rfl
  have fa := hL.frozen (i * 5 + 2)
  have hEl := lt_of_block hE'
  have hgl := lt_of_block hgb
  have hHG := Aside0.mk hgb
  have hkl : (k : Int) < (t.f2.length : Int) := by omega
  have hk0 : (0 : Int) ≤ (k : Int) := by omega
  have HI := Lib.hid (show turnCE t k true = _ by unfold turnCE; rw [hst, hs, hid])
  rw [hst, hs]
  rw [hs] at e4
  rw [hid] at e0
  have HS := Lib.hid hs
  have HID := Lib.hid hid
  have hne' : gi ≠ g := Ne.symm hne
  obtain ⟨C, hC⟩ : ∃ C, turnCE t k true = C := ⟨_, rfl⟩
  rw [hC] at HI ⊢
  clear hE hE' hL ht hU hB hcl hM hcc hfr hst hs hgb hib hid hC
  by_cases hr : st = 4
  · obtain rfl : C = 12 := by rw [HI.out, if_pos (.inl ⟨rfl, hr⟩)]
    subst hr
    go_enter Tryd.func108, Tryd.ntmps108
    go_wp2_with fail
    go_region
    all_goals
      go_wp2
      go_ret
      exact ⟨rfl, (HU.out.step (below_drew (Below.refl _ _))).tch, fun h => absurd h (by decide)⟩
  have hq : (st == 4) = false := by simpa using hr
  have HI2 := Lib.hid (HI.out.trans (if_neg (by rintro (⟨-, h⟩ | ⟨h, -⟩); exact hr h; cases h)))
  clear HI
  by_cases hkz : k = 0
  · obtain rfl : C = 8 := by rw [HI2.out, if_pos hkz]
    subst hkz
    clear HI2
    go_enter Tryd.func108, Tryd.ntmps108
    go_wp2_with fail
    go_region
    all_goals
      go_wp2
      all_goals
        go_ret
        exact ⟨rfl, (HU.out.step (below_drew (Below.refl _ _))).tch, fun h => absurd h (by decide)⟩
  have hkq : ((k : Int) == 0) = false := by rw [beq_eq_false_iff_ne]; omega
  have HI3 := Lib.hid (HI2.out.trans (if_neg hkz))
  clear HI2 hkz
  obtain rfl : C = 0 := by rw [HI3.out, if_neg (by rintro ⟨h, -⟩; cases h)]
  clear HI3 hr
  have hTI : turnC t k (st + byI true) = ⟨t.f0, t.f1, t.f2.set k ⟨t.f2[k].f0, t.f2[k].f1, t.f2[k].f2, st + 1, t.f2[k].f4, t.f2[k].f5⟩, t.f3, t.f4⟩ := by unfold turnC byI; rw [if_pos rfl, if_neg (by omega), rd75 _ _ hk]
  have HTI := Lib.hid hTI
  clear hTI
  go_enter Tryd.func108, Tryd.ntmps108
  go_wp2_with fail
  go_region
  all_goals
    have HUd := Aside0.mk (HU.out.step (below_drew (Below.refl _ _)))
    have HF := Aside0.mk (HUd.out.putS k hk (st + 1) HTI.out.symm)
    go_wp2
    go_ret
    exact ⟨rfl, HF.out.tch, fun _ => HF.out.lent.back⟩
set_option maxRecDepth 100000 in
set_option maxHeartbeats 8000000 in
theorem turnC_dn (w0 W : World) (g n cap : Nat) (ts : List S70) (i : Nat) (oki : Nat → Prop) (t : S70) (cv iv : Value) (gi m c E k : Nat) (hB : Below w0.heap.size w0 W) (hL : Lent W w0.heap.size g n cap ts i oki t cv iv) (ht : tableB t = true) (hv : cv = .slice (some ⟨gi, 0, none⟩) m c) (hk : k < t.f2.length)
    (hE : ElemOk E ⟨g, i * 5, none⟩ ⟨gi, k * 9 + 3, none⟩ k false false W) :
    Calls Tryd.prog 108 #[.pointer (some ⟨E, 0, none⟩), .bool false] W (TurnPost w0 W g n cap ts i (turnCE t k false) (turnC t k ((rd_T75 t.f2 (k : Int)).f3 + byI false))) := by
  obtain ⟨m2, m3, m4, m5⟩ := tableB_lens ht
  have hE' : W.heap[E]? = some (.cells #[.pointer (some ⟨g, i * 5, none⟩), .pointer (some ⟨gi, k * 9 + 3, none⟩), .int .i64 k, .bool false, .bool false] 148 (0, 0)) := hE
  have hHE := Aside0.mk hE'
  subst hv
  obtain rfl : m = t.f2.length := (Kd.R_reads' hL.cols).1
  have h0 := blk_cell (j := 0) (v := .pointer (some ⟨g, i * 5, none⟩)) hE' rfl
  have h1 := blk_cell (j := 1) (v := .pointer (some ⟨gi, k * 9 + 3, none⟩)) hE' rfl
  have h2 := blk_cell (j := 2) (v := .int .i64 k) hE' rfl
  have h3 := blk_cell (j := 3) (v := .bool false) hE' rfl
  have h4 := blk_cell (j := 4) (v := .bool false) hE' rfl
  have hU := (⟨hL, Tch.refl _ _, hB.size⟩ : UpdSt w0 W W g n cap ts i oki t _ _)
  have hst : (rd_T75 t.f2 (k : Int)) = t.f2[k] := rd75 _ _ hk
  obtain ⟨cz, hcl, hM, hcc, hfr⟩ := Kd.R_elem hL.cols z75 (k : Int) (by omega) (by omega)
  rw [show t.f2.getD (k : Int).toNat z75 = t.f2[k] by simp [List.getD, hk]] at hM
  obtain rfl := k75_openM hM
  have e4 : W.cell? ⟨gi, k * 9 + 3, none⟩ = some (.int .i64 t.f2[k].f3) := hcc 3 _ rfl
  have f4 : W.frozen? ⟨gi, k * 9 + 3, none⟩ = false := hfr 3
  have e0 : W.cell? ⟨gi, k * 9, none⟩ = some (.int .i64 t.f2[k].f0) := hcc 0 _ rfl
  obtain ⟨st, hs⟩ : ∃ st, t.f2[k].f3 = st := ⟨_, rfl⟩
  obtain ⟨id, hid⟩ : ∃ id, t.f2[k].f0 = id := ⟨_, rfl⟩
  have hst4 : 0 ≤ st ∧ st ≤ 4 := by
    have hb := tcolsB_all _ _ _ (by unfold tableB at ht; simp only [Bool.and_eq_true] at ht; exact ht.2.2.2.2.2.2.1) t.f2[k] (List.getElem_mem hk)
    unfold columnB stateB at hb
    simp only [Bool.and_eq_true, decide_eq_true_eq] at hb
    omega
  have HU := Aside0.mk hU
  have HB := Aside0.mk hB
  have hlc := (Kd.R_reads' hL.cols).2.1
  have hne : g ≠ gi := fun e => hL.oki_ne gi (hL.cols.1 gi (by simp [Value.ownBlock])) e.symm
  obtain ⟨gcs, hgb⟩ := hL.blk
  obtain ⟨ics, hib⟩ := Kd.R_typed hL.cols gi (by simp [Value.ownBlock])
  have hEg : E ≠ g := (blk_ne hE' hgb (by decide))
  have hEi : E ≠ gi := (blk_ne hE' hib (by decide))
  have a2 := hL.cell 2 rfl
  have fa := hL.frozen (i * 5 + 2)
  have hEl := lt_of_block hE'
  have hgl := lt_of_block hgb
  have hHG := Aside0.mk hgb
  have hkl : (k : Int) < (t.f2.length : Int) := by omega
  have hk0 : (0 : Int) ≤ (k : Int) := by omega
  have HI := Lib.hid (show turnCE t k false = _ by unfold turnCE; rw [hst, hs, hid])
  rw [hst, hs]
  rw [hs] at e4
  rw [hid] at e0
  have HS := Lib.hid hs
  have HID := Lib.hid hid
  have hne' : gi ≠ g := Ne.symm hne
  obtain ⟨C, hC⟩ : ∃ C, turnCE t k false = C := ⟨_, rfl⟩
  rw [hC] at HI ⊢
  clear hE hE' hL ht hU hB hcl hM hcc hfr hst hs hgb hib hid hC
  by_cases hr : st = 0
  · obtain rfl : C = 12 := by rw [HI.out, if_pos (.inr ⟨rfl, hr⟩)]
    subst hr
    go_enter Tryd.func108, Tryd.ntmps108
    go_wp2_with fail
    go_region
    all_goals
      go_wp2
      go_ret
      exact ⟨rfl, (HU.out.step (below_drew (Below.refl _ _))).tch, fun h => absurd h (by decide)⟩
  have hq : (st == 0) = false := by simpa using hr
  have HI2 := Lib.hid (HI.out.trans (if_neg (by rintro (⟨h, -⟩ | ⟨-, h⟩); cases h; exact hr h)))
  clear HI
  by_cases hkz : k = 0
  · obtain rfl : C = 8 := by rw [HI2.out, if_pos hkz]
    subst hkz
    clear HI2
    go_enter Tryd.func108, Tryd.ntmps108
    go_wp2_with fail
    go_region
    all_goals
      go_wp2
      all_goals
        go_ret
        exact ⟨rfl, (HU.out.step (below_drew (Below.refl _ _))).tch, fun h => absurd h (by decide)⟩
  have hkq : ((k : Int) == 0) = false := by rw [beq_eq_false_iff_ne]; omega
  have HI3 := Lib.hid (HI2.out.trans (if_neg hkz))
  clear HI2 hkz
  by_cases h1s : st = 1
  · subst h1s
    have HTI := Lib.hid (show turnC t k (1 + byI false) = ⟨t.f0, t.f1, t.f2.eraseIdx k, t.f3, t.f4⟩ by unfold turnC byI; rw [if_pos (by decide)])
    have HQ := Lib.hid (leaned_calls id ⟨g, i * 5, none⟩ t.f3)
    obtain ⟨lb, hlb⟩ : ∃ lb, usedB id t.f3 = lb := ⟨_, rfl⟩
    have HLB := Lib.hid hlb
    obtain ⟨Ai, ci, hiv⟩ := Kd.R_slice HU.out.lent.inds
    subst hiv
    clear hr hq hlb
    go_enter Tryd.func108, Tryd.ntmps108
    go_wp2_with fail
    go_region
    all_goals
      have HUd := Aside0.mk (HU.out.step (below_drew (Below.refl _ _)))
      go_wp2_with fail
      refine (HQ.out Ai ci W.drew (HUd.out.lent.cell 3 rfl) (Kd.R_reads' HUd.out.lent.inds).2.2).mono ?_
      rw [HLB.out]
      rintro e w1 ⟨rfl, hb1⟩
      have hbW := Aside0.mk (show Below W.heap.size W w1 from below_then (below_drew (Below.refl _ W)) (Nat.le_refl _) hb1)
      have HU1 := Aside0.mk (HUd.out.step hb1)
      have hE1 := blk_below hHE.out hbW.out
      have h0 := blk_cell (j := 0) (v := .pointer (some ⟨g, i * 5, none⟩)) hE1 rfl
      have h2 := blk_cell (j := 2) (v := .int .i64 k) hE1 rfl
      have h3 := blk_cell (j := 3) (v := .bool false) hE1 rfl
      have a2 := HU1.out.lent.cell 2 rfl
      have hEl := lt_of_block hE1
      have hG1 := blk_below hHG.out hbW.out
      have hgl := lt_of_block hG1
      have fa := blk_frozen hG1 (i * 5 + 2)
      have hHE1 := Aside0.mk hE1
      have hHG1 := Aside0.mk hG1
      clear h1 h4 e4 f4 e0 hst4 hlc HU HUd hHE hHG hE1 hG1 hb1 HQ
      cases lb with
      | true =>
        obtain rfl : C = 18 := by rw [HI3.out, if_pos (by refine ⟨?_, ?_, HLB.out⟩ <;> simp)]
        clear HI3
        go_wp2
        go_ret
        exact ⟨rfl, HU1.out.tch, fun h => absurd h (by decide)⟩
      | false =>
        obtain rfl : C = 0 := by rw [HI3.out, if_neg (by rintro ⟨-, -, h⟩; rw [HLB.out] at h; cases h)]
        have HDL := Lib.hid (del151 t.f2 gi c k w1.drew w0.heap.size oki (Kd.R_drew HU1.out.lent.cols) hk (by omega))
        have HARM := Lib.hid (fun (w3 : World) (hg3 : w1.drew.grownBy w3 (some gi)) => (show w3.cell? ⟨E, 0, none⟩ = some (.pointer (some ⟨g, i * 5, none⟩)) ∧ w3.cell? ⟨E, 2, none⟩ = some (.int .i64 k) ∧ w3.frozen? ⟨g, i * 5 + 2, none⟩ = false ∧ g < w3.heap.size ∧ w3.cell? ⟨g, i * 5 + 2, none⟩ = some (.slice (some ⟨gi, 0, none⟩) t.f2.length c) by
          have hE3 := blk_grown (blk_below hHE1.out (below_drew (Below.refl _ _))) hg3 (fun h => hEi (by injection h))
          have hG3 := blk_grown (blk_below hHG1.out (below_drew (Below.refl _ _))) hg3 (fun h => hne (by injection h))
          exact ⟨blk_cell hE3 rfl, blk_cell hE3 rfl, blk_frozen hG3 _, lt_of_block hG3, hg3.cell (pw_cell_below (below_drew (Below.refl _ w1)) a2) (fun h => hne (by injection h))⟩))
        have hwk : IntKind.i64.wrap ((k : Int) + 1) = (k : Int) + 1 := IntWalk.i64_in _ (by omega)
        clear HI3
        go_wp2_with fail
        clear h3 m2 m3 m4 m5
        go_region_law ((go_simp; go_at_call 151; refine HDL.out.mono ?_; rintro e w3 ⟨rfl, hr3, hg3⟩; obtain ⟨z0, z2, zf, zl, y3⟩ := HARM.out w3 hg3))
        all_goals
          have HF := Aside0.mk ((HU1.out.step (below_drew (Below.refl _ _))).setC hg3 hr3 HTI.out.symm)
          clear hr3 hg3 z0 z2 zf y3 a2 fa HDL HARM
          go_wp2
          go_ret
          exact ⟨rfl, HF.out.tch, fun _ => HF.out.lent.back⟩
  have hq1 : (st == 1) = false := by simpa using h1s
  obtain rfl : C = 0 := by rw [HI3.out, if_neg (by rintro ⟨-, h, -⟩; exact h1s h)]
  clear HI3
  have hTI : turnC t k (st + byI false) = ⟨t.f0, t.f1, t.f2.set k ⟨t.f2[k].f0, t.f2[k].f1, t.f2[k].f2, st - 1, t.f2[k].f4, t.f2[k].f5⟩, t.f3, t.f4⟩ := by unfold turnC byI; rw [if_neg (show ¬ (false = true) by simp), if_neg (by omega), rd75 _ _ hk, Int.sub_eq_add_neg]
  have HTI := Lib.hid hTI
  clear hTI
  go_enter Tryd.func108, Tryd.ntmps108
  go_wp2_with fail
  go_region
  all_goals
    have HUd := Aside0.mk (HU.out.step (below_drew (Below.refl _ _)))
    have HF := Aside0.mk (HUd.out.putS k hk (st - 1) HTI.out.symm)
    go_wp2
    go_ret
    exact ⟨rfl, HF.out.tch, fun _ => HF.out.lent.back⟩
end Go.Proofs.YtjgomlcdmpcoaaaDoor.H
namespace Go.Proofs.YtjgomlcdmpcoaaaDoor.H
open Go.RowKit Go.Proofs.YtjgomlcdmpcoaaaDoorW.PrintWords Go.Proofs.YtjgomlcdmpcoaaaDoorW.PrintLast Go.Proofs.YtjgomlcdmpcoaaaDoorW.PrintMore
open Go.Proofs.YtjgomlcdmpcoaaaDoor.D Go.Proofs.YtjgomlcdmpcoaaaDoor
set_option linter.unusedVariables false
set_option linter.unusedSimpArgs false
set_option maxRecDepth 100000 in
set_option maxHeartbeats 4000000 in
theorem colOf_no (E : Nat) (pa : Addr) (sp : Value) (at0 : Int) (ix0 rl0 : Bool) (xs : List S75) (A : Option Addr) (c : Nat) (id : Int) (rule : Bool) (w : World) (hE : w.heap[E]? = some (.cells #[.pointer (some pa), sp, .int .i64 at0, .bool ix0, .bool rl0] 148 (0, 0)))
    (hp : w.cell? ⟨pa.block, pa.off + 2, none⟩ = some (.slice A xs.length c)) (hC : k75.C w A xs.length xs) (hpE : pa.block ≠ E) (hk : idxL (cId id) xs 0 = -1) :
    Calls Tryd.prog 175 #[.pointer (some ⟨E, 0, none⟩), .int .i64 id, .bool rule] w fun e w' => e = .returned (.bool false) ∧ Below E w w' := by
  have hEl := blk_lt hE
  have HX := Aside0.mk (blk_alloc hE (.cells #[.int .i64 id] 3))
  have hmf : ∀ (fn : Fn) (first cap : Array Value) (w : World), (Instr.makeFunc fn first cap).run Tryd.prog w = .ok (.func fn first cap) w := fun _ _ _ _ => rfl
  have e0 := blk_cell (j := 0) (v := .pointer (some pa)) hE rfl
  have HQ := Lib.hid (idx75 180 #[.pointer (some ⟨w.heap.size, 0, none⟩)] enters180 (fun x => x.f0 == id) A c xs (w.alloc (.cells #[.int .i64 id] 3)) (Kd.C_below hC (below_alloc (Below.refl _ _) _)) (pred180 id w.heap.size _ (by simp) (blk_cell (heap_alloc_new w (.cells #[.int .i64 id] 3)) rfl)))
  rw [idxL_same (fun x : S75 => x.f0 == id) (cId id) (fun x => by unfold cId; rfl), hk] at HQ
  have hl := World.block_lt_of_cell? w _ hp
  clear hC hk
  go_enter Tryd.func175, Tryd.ntmps175
  go_wp2_with fail
  refine HQ.out.mono ?_
  rintro e w1 ⟨rfl, hb1⟩
  have hx1 := blk_below HX.out hb1
  have c2 := blk_cell (j := 2) (v := .int .i64 at0) hx1 rfl
  have f2 := blk_frozen hx1 2
  have hbb : Below E w (w1.setCell ⟨E, 2, none⟩ (.int .i64 (-1))) := Below.setCell (p := ⟨E, 2, none⟩) (((below_alloc (Below.refl _ w) (.cells #[.int .i64 id] 3)).trans (hb1.mono (by simp))).mono (Nat.le_of_lt hEl)) (Nat.le_refl _) _
  have HB := Aside0.mk hbb
  clear hx1 hbb hb1 e0 hE
  go_wp2
  go_ret
  exact ⟨rfl, HB.out⟩
set_option maxRecDepth 100000 in
set_option maxHeartbeats 4000000 in
theorem colOf_yes (E : Nat) (pa : Addr) (sp : Value) (at0 : Int) (ix0 rl0 : Bool) (xs : List S75) (ad : Addr) (c : Nat) (id : Int) (rule : Bool) (k : Nat) (w : World) (hE : w.heap[E]? = some (.cells #[.pointer (some pa), sp, .int .i64 at0, .bool ix0, .bool rl0] 148 (0, 0))) (hsp : sp = .pointer none)
    (hp : w.cell? ⟨pa.block, pa.off + 2, none⟩ = some (.slice (some ad) xs.length c)) (hC : k75.C w (some ad) xs.length xs) (hpE : pa.block ≠ E) (hk : idxL (cId id) xs 0 = (k : Int)) (hkl : k < xs.length) :
    Calls Tryd.prog 175 #[.pointer (some ⟨E, 0, none⟩), .int .i64 id, .bool rule] w fun e w' => e = .returned (.bool true) ∧ Below E w w' ∧ ElemOk E pa ⟨(ad.add (k * 9)).block, (ad.add (k * 9)).off + (if rule = true then 4 else 3), none⟩ k ix0 rule w' := by
  obtain ⟨A, hA⟩ : ∃ A, A = some ad := ⟨_, rfl⟩
  rw [← hA] at hp hC
  have hEl := blk_lt hE
  have HX := Aside0.mk (blk_alloc hE (.cells #[.int .i64 id] 3))
  have hmf : ∀ (fn : Fn) (first cap : Array Value) (w : World), (Instr.makeFunc fn first cap).run Tryd.prog w = .ok (.func fn first cap) w := fun _ _ _ _ => rfl
  have e0 := blk_cell (j := 0) (v := .pointer (some pa)) hE rfl
  have HQ := Lib.hid (idx75 180 #[.pointer (some ⟨w.heap.size, 0, none⟩)] enters180 (fun x => x.f0 == id) A c xs (w.alloc (.cells #[.int .i64 id] 3)) (Kd.C_below hC (below_alloc (Below.refl _ _) _)) (pred180 id w.heap.size _ (by simp) (blk_cell (heap_alloc_new w (.cells #[.int .i64 id] 3)) rfl)))
  rw [idxL_same (fun x : S75 => x.f0 == id) (cId id) (fun x => by unfold cId; rfl), hk] at HQ
  have hl := World.block_lt_of_cell? w _ hp
  rw [hA] at HQ hp
  have hki : (k : Int) < (xs.length : Int) := by omega
  have hk0 : (0 : Int) ≤ (k : Int) := by omega
  subst hsp
  clear hC hk hA
  go_enter Tryd.func175, Tryd.ntmps175
  go_wp2_with fail
  refine HQ.out.mono ?_
  rintro e w1 ⟨rfl, hb1⟩
  have hx1 := blk_below HX.out hb1
  have c2 := blk_cell (j := 2) (v := .int .i64 at0) hx1 rfl
  have f2 := blk_frozen hx1 2
  have HB := Aside0.mk (((below_alloc (Below.refl _ w) (.cells #[.int .i64 id] 3)).trans (hb1.mono (by simp))).mono (Nat.le_of_lt hEl) : Below E w w1)
  have hp1 := pw_cell_below (below_then (below_alloc (Below.refl _ w) (.cells #[.int .i64 id] 3)) (by simp) hb1) hp
  have HX1 := Aside0.mk hx1
  clear hx1 hb1 e0 hE hp
  go_wp2_with fail
  have hx2 := blk_put HX1.out 2 (.int .i64 (k : Int)) rfl
  have hp2 : (w1.setCell ⟨E, 2, none⟩ (.int .i64 (k : Int))).cell? ⟨pa.block, pa.off + 2, none⟩ = some (.slice (some ad) xs.length c) := by
    rw [← hp1]; exact cell_same (Below.heap_setCell _ _ _ _ hpE)
  have HB2 := Aside0.mk (HB.out.setCell (p := ⟨E, 2, none⟩) (Nat.le_refl _) (.int .i64 (k : Int)))
  clear c2 f2 hp1 HX1 HB HX
  generalize w1.setCell ⟨E, 2, none⟩ (.int .i64 (k : Int)) = w2 at hx2 hp2 HB2 ⊢
  have c0 := blk_cell (j := 0) (v := .pointer (some pa)) hx2 rfl
  have c1 := blk_cell (j := 1) (v := .pointer none) hx2 rfl
  have c2 := blk_cell (j := 2) (v := .int .i64 (k : Int)) hx2 rfl
  have c4 := blk_cell (j := 4) (v := .bool rl0) hx2 rfl
  have f1 := blk_frozen hx2 1
  have f4 := blk_frozen hx2 4
  have hpE' : ¬ E = pa.block := Ne.symm hpE
  have HX2 := Aside0.mk hx2
  clear hx2
  cases rule
  all_goals
    go_wp2_with fail
    go_region
    all_goals
      go_wp2
      go_ret
      first
        | exact ⟨rfl, below_drew ((HB2.out.setCell (p := ⟨E, 1, none⟩) (Nat.le_refl _) _).setCell (p := ⟨E, 4, none⟩) (Nat.le_refl _) _), blk_put (blk_put HX2.out 1 _ rfl) 4 _ rfl⟩
        | exact ⟨rfl, below_drew (((HB2.out.setCell (p := ⟨E, 1, none⟩) (Nat.le_refl _) _).setCell (p := ⟨E, 4, none⟩) (Nat.le_refl _) _).setCell (p := ⟨E, 1, none⟩) (Nat.le_refl _) _), blk_put (blk_put (blk_put HX2.out 1 _ rfl) 4 _ rfl) 1 _ rfl⟩
end Go.Proofs.YtjgomlcdmpcoaaaDoor.H
namespace Go.Proofs.YtjgomlcdmpcoaaaDoor.H
open Go.RowKit Go.Proofs.YtjgomlcdmpcoaaaDoorW.PrintWords Go.Proofs.YtjgomlcdmpcoaaaDoorW.PrintLast Go.Proofs.YtjgomlcdmpcoaaaDoorW.PrintMore
open Go.Proofs.YtjgomlcdmpcoaaaDoor.D Go.Proofs.YtjgomlcdmpcoaaaDoor
set_option linter.unusedVariables false
set_option linter.unusedSimpArgs false
theorem eql_f147 (w : World) : (binOp BinOp.eql 176 (Value.func (Fn.func 147) #[] #[]) Value.nilFunc).run Tryd.prog w = .ok (.bool false) w := by kernel_rfl
theorem eql_f148 (w : World) : (binOp BinOp.eql 176 (Value.func (Fn.func 148) #[] #[]) Value.nilFunc).run Tryd.prog w = .ok (.bool false) w := by kernel_rfl
theorem eql_nilF (w : World) : (binOp BinOp.eql 176 Value.nilFunc Value.nilFunc).run Tryd.prog w = .ok (.bool true) w := by kernel_rfl
theorem enters147 (args : Array Value) (w : World) : (callFunc 147 args).run Tryd.prog w = .ok (.enter 147 args) w := enters Tryd.func147 (by kernel_rfl) rfl args w
theorem enters148 (args : Array Value) (w : World) : (callFunc 148 args).run Tryd.prog w = .ok (.enter 148 args) w := enters Tryd.func148 (by kernel_rfl) rfl args w
set_option maxRecDepth 100000 in
set_option maxHeartbeats 4000000 in
theorem ccol_no (E : Nat) (pa : Addr) (sp : Value) (at0 : Int) (ix0 rl0 : Bool) (xs : List S75) (A : Option Addr) (c : Nat) (id : Int) (w : World) (hE : w.heap[E]? = some (.cells #[.pointer (some pa), sp, .int .i64 at0, .bool ix0, .bool rl0] 148 (0, 0)))
    (hp : w.cell? ⟨pa.block, pa.off + 2, none⟩ = some (.slice A xs.length c)) (hC : k75.C w A xs.length xs) (hpE : pa.block ≠ E) (hk : idxL (cId id) xs 0 = -1) :
    Calls Tryd.prog 147 #[.pointer (some ⟨E, 0, none⟩), .int .i64 id] w fun e w' => e = .returned (.bool false) ∧ Below E w w' := by
  have H := Lib.hid (colOf_no E pa sp at0 ix0 rl0 xs A c id false w hE hp hC hpE hk)
  clear hE hp hC hpE hk
  go_enter Tryd.func147, Tryd.ntmps147
  go_wp2_with fail
  refine H.out.mono ?_
  rintro e w1 ⟨rfl, hb1⟩
  go_wp2
  go_ret
  exact ⟨rfl, hb1⟩
set_option maxRecDepth 100000 in
set_option maxHeartbeats 4000000 in
theorem ccol_yes (E : Nat) (pa : Addr) (sp : Value) (at0 : Int) (ix0 rl0 : Bool) (xs : List S75) (ad : Addr) (c : Nat) (id : Int) (k : Nat) (w : World) (hE : w.heap[E]? = some (.cells #[.pointer (some pa), sp, .int .i64 at0, .bool ix0, .bool rl0] 148 (0, 0))) (hsp : sp = .pointer none)
    (hp : w.cell? ⟨pa.block, pa.off + 2, none⟩ = some (.slice (some ad) xs.length c)) (hC : k75.C w (some ad) xs.length xs) (hpE : pa.block ≠ E) (hk : idxL (cId id) xs 0 = (k : Int)) (hkl : k < xs.length) :
    Calls Tryd.prog 147 #[.pointer (some ⟨E, 0, none⟩), .int .i64 id] w fun e w' => e = .returned (.bool true) ∧ Below E w w' ∧ ElemOk E pa ⟨(ad.add (k * 9)).block, (ad.add (k * 9)).off + 3, none⟩ k ix0 false w' := by
  have H := Lib.hid (colOf_yes E pa sp at0 ix0 rl0 xs ad c id false k w hE hsp hp hC hpE hk hkl)
  clear hE hp hC hpE hk hsp
  go_enter Tryd.func147, Tryd.ntmps147
  go_wp2_with fail
  refine H.out.mono ?_
  rintro e w1 ⟨rfl, hb1, he1⟩
  go_wp2
  go_ret
  exact ⟨rfl, hb1, he1⟩
set_option maxRecDepth 100000 in
set_option maxHeartbeats 4000000 in
theorem cnul_no (E : Nat) (pa : Addr) (sp : Value) (at0 : Int) (ix0 rl0 : Bool) (xs : List S75) (A : Option Addr) (c : Nat) (id : Int) (w : World) (hE : w.heap[E]? = some (.cells #[.pointer (some pa), sp, .int .i64 at0, .bool ix0, .bool rl0] 148 (0, 0)))
    (hp : w.cell? ⟨pa.block, pa.off + 2, none⟩ = some (.slice A xs.length c)) (hC : k75.C w A xs.length xs) (hpE : pa.block ≠ E) (hk : idxL (cId id) xs 0 = -1) :
    Calls Tryd.prog 148 #[.pointer (some ⟨E, 0, none⟩), .int .i64 id] w fun e w' => e = .returned (.bool false) ∧ Below E w w' := by
  have H := Lib.hid (colOf_no E pa sp at0 ix0 rl0 xs A c id true w hE hp hC hpE hk)
  clear hE hp hC hpE hk
  go_enter Tryd.func148, Tryd.ntmps148
  go_wp2_with fail
  refine H.out.mono ?_
  rintro e w1 ⟨rfl, hb1⟩
  go_wp2
  go_ret
  exact ⟨rfl, hb1⟩
set_option maxRecDepth 100000 in
set_option maxHeartbeats 4000000 in
theorem cnul_yes (E : Nat) (pa : Addr) (sp : Value) (at0 : Int) (ix0 rl0 : Bool) (xs : List S75) (ad : Addr) (c : Nat) (id : Int) (k : Nat) (w : World) (hE : w.heap[E]? = some (.cells #[.pointer (some pa), sp, .int .i64 at0, .bool ix0, .bool rl0] 148 (0, 0))) (hsp : sp = .pointer none)
    (hp : w.cell? ⟨pa.block, pa.off + 2, none⟩ = some (.slice (some ad) xs.length c)) (hC : k75.C w (some ad) xs.length xs) (hpE : pa.block ≠ E) (hk : idxL (cId id) xs 0 = (k : Int)) (hkl : k < xs.length) :
    Calls Tryd.prog 148 #[.pointer (some ⟨E, 0, none⟩), .int .i64 id] w fun e w' => e = .returned (.bool true) ∧ Below E w w' ∧ ElemOk E pa ⟨(ad.add (k * 9)).block, (ad.add (k * 9)).off + 4, none⟩ k ix0 true w' := by
  have H := Lib.hid (colOf_yes E pa sp at0 ix0 rl0 xs ad c id true k w hE hsp hp hC hpE hk hkl)
  clear hE hp hC hpE hk hsp
  go_enter Tryd.func148, Tryd.ntmps148
  go_wp2_with fail
  refine H.out.mono ?_
  rintro e w1 ⟨rfl, hb1, he1⟩
  go_wp2
  go_ret
  exact ⟨rfl, hb1, he1⟩
set_option maxRecDepth 100000 in
set_option maxHeartbeats 4000000 in
theorem find_ccol_yes (X : Nat) (v nx kind table elem : Int) (ts : List S70) (ad : Addr) (c i k : Nat) (w : World) (hkd : finder kind = .func (.func 147) #[] #[]) (hX : w.heap[X]? = some (.cells #[.int .i64 v, .slice (some ad) ts.length c, .int .i64 nx] 28 (0, 0))) (hC : k70.C w (some ad) ts.length ts)
    (hi : idxL (tId table) ts 0 = (i : Int)) (hil : i < ts.length) (hk : idxL (cId elem) ts[i].f2 0 = (k : Int)) (hkl : k < ts[i].f2.length) :
    Calls Tryd.prog 107 #[.pointer (some ⟨X, 0, none⟩), .int .i64 kind, .int .i64 table, .int .i64 elem] w fun e w' => ∃ E a3, e = .returned (.tuple #[.pointer (some ⟨E, 0, none⟩), .bool true]) ∧ Below w.heap.size w w' ∧
      ElemOk E (ad.add (i * 5)) ⟨(Addr.add a3 (k * 9)).block, (Addr.add a3 (k * 9)).off + 3, none⟩ k false false w' ∧ w'.cell? ⟨(Addr.add a3 (k * 9)).block, (Addr.add a3 (k * 9)).off + 3, none⟩ = some (.int .i64 ts[i].f2[k].f3) ∧ ∃ cc, w.cell? ⟨(ad.add (i * 5)).block, (ad.add (i * 5)).off + 2, none⟩ = some (.slice (some a3) ts[i].f2.length cc) := by
  have hXl := blk_lt hX
  obtain ⟨W0, hW0⟩ : ∃ W0, W0 = (w.alloc (.cells #[.int .i64 table] 3)).alloc (.map #[] 0) := ⟨_, rfl⟩
  have hB0 : Below w.heap.size w W0 := by rw [hW0]; exact below_alloc (below_alloc (Below.refl _ _) _) _
  have hm0 : W0.heap[w.heap.size + 1]? = some (.map #[] 0) := by
    have := heap_alloc_new (w.alloc (.cells #[.int .i64 table] 3)) (.map #[] 0)
    rw [hW0]
    simpa using this
  have ht0 : W0.heap[w.heap.size]? = some (.cells #[.int .i64 table] 3 (0, 0)) := by rw [hW0]; exact blk_alloc (heap_alloc_new w _) _
  obtain ⟨W1, W2, W3, W4, W5, W6, i1, i2, i3, i4, i5, i6, hm6, hg6⟩ := finds_made W0 (w.heap.size + 1) hm0
  have hB6 : Below w.heap.size w W6 := hB0.grown hg6 hB0.size (fun k hk => by injection hk with hk; omega)
  have ht6 : W6.heap[w.heap.size]? = some (.cells #[.int .i64 table] 3 (0, 0)) := (hg6.block _ (blk_lt ht0) (fun e => by injection e with e; omega)).trans ht0
  have hlook := finds_look hm6 kind
  rw [hkd] at hlook
  have hx6 := blk_below hX hB6
  have x1 := blk_cell (j := 1) (v := .slice (some ad) ts.length c) hx6 rfl
  have HQ := Lib.hid (idx70 149 #[.pointer (some ⟨w.heap.size, 0, none⟩)] enters149 (fun x => x.f0 == table) (some ad) c ts W6 (Kd.C_below hC hB6) (pred149 table w.heap.size W6 (blk_lt ht6) (blk_cell ht6 rfl)))
  rw [idxL_same (fun x : S70 => x.f0 == table) (tId table) (fun x => by unfold tId; rfl), hi] at HQ
  have hmm := @run_makeMap Tryd.prog
  have hmf : ∀ (fn : Fn) (first cap : Array Value) (w : World), (Instr.makeFunc fn first cap).run Tryd.prog w = .ok (.func fn first cap) w := fun _ _ _ _ => rfl
  have hii : (i : Int) < (ts.length : Int) := by omega
  have hi0 : (0 : Int) ≤ (i : Int) := by omega
  have HC := Aside0.mk hC
  have HB6 := Aside0.mk hB6
  have HX6 := Aside0.mk hx6
  rw [hW0] at i1
  clear hC hX hi hB0 hm0 ht0 hm6 hg6 hB6 ht6 hx6 hkd
  clear hW0
  go_enter Tryd.func107, Tryd.ntmps107
  have HE := Lib.hid enters147
  go_wp2_with fail
  refine HQ.out.mono ?_
  rintro e w7 ⟨rfl, hb7⟩
  have hx7 := blk_below HX6.out hb7
  have HX7 := Aside0.mk hx7
  have HB7 := Aside0.mk (below_then HB6.out HB6.out.size hb7)
  have x1' := blk_cell (j := 1) (v := .slice (some ad) ts.length c) hx7 rfl
  clear hb7 hx7 x1 i1 i2 i3 i4 i5 i6 hlook HX6 HB6 HQ
  have heq := eql_f147
  go_wp2_with fail
  have hB8 := below_then HB7.out HB7.out.size (below_alloc (Below.refl _ w7) (.cells #[.pointer (some (ad.add (i * 5))), .pointer none, .int .i64 0, .bool false, .bool false] 148))
  obtain ⟨ad', A3, c3, A2, c2, eA, h0, -, h3, -, -, hd3, hinds, -, -⟩ := at_T70 HC.out (i : Int) (by omega) (by omega)
  rw [rd70 _ _ hil] at h0 h3 hd3 hinds
  simp only [Int.toNat_natCast] at h0 h3
  obtain rfl : ad = ad' := by injection eA
  obtain ⟨a3, eA3, -, -, -, q3, q4, -⟩ := at_T75 hinds (k : Int) (by omega) (by omega)
  have e4 := q3
  rw [rd75 _ _ hkl] at e4
  simp only [Int.toNat_natCast] at e4
  subst eA3
  have hlt := World.block_lt_of_cell? w _ h0
  have hpE : (ad.add (i * 5)).block ≠ w7.heap.size := by have := HB7.out.size; omega
  refine (ccol_yes w7.heap.size (ad.add (i * 5)) (.pointer none) 0 false false ts[i].f2 a3 c3 elem k _ (heap_alloc_new w7 _) rfl (pw_cell_below hB8 h3) (Kd.C_below hinds hB8) hpE hk hkl).mono ?_
  rintro e w9 ⟨rfl, hb9, hel⟩
  have hB9 := HB7.out.trans (show Below w.heap.size w7 w9 from ((below_alloc (Below.refl _ w7) _).trans hb9).mono HB7.out.size)
  have HF := Aside0.mk (And.intro hB9 (And.intro hel (And.intro (pw_cell_below hB9 e4) h3)))
  clear hb9 hel hB9 hB8 h0 h3 e4 hinds eA heq x1' hmm hmf
  go_wp2
  go_ret2
  exact ⟨w7.heap.size, a3, rfl, HF.out.1, HF.out.2.1, HF.out.2.2.1, _, HF.out.2.2.2⟩
set_option maxRecDepth 100000 in
set_option maxHeartbeats 4000000 in
theorem find_cnul_yes (X : Nat) (v nx kind table elem : Int) (ts : List S70) (ad : Addr) (c i k : Nat) (w : World) (hkd : finder kind = .func (.func 148) #[] #[]) (hX : w.heap[X]? = some (.cells #[.int .i64 v, .slice (some ad) ts.length c, .int .i64 nx] 28 (0, 0))) (hC : k70.C w (some ad) ts.length ts)
    (hi : idxL (tId table) ts 0 = (i : Int)) (hil : i < ts.length) (hk : idxL (cId elem) ts[i].f2 0 = (k : Int)) (hkl : k < ts[i].f2.length) :
    Calls Tryd.prog 107 #[.pointer (some ⟨X, 0, none⟩), .int .i64 kind, .int .i64 table, .int .i64 elem] w fun e w' => ∃ E a3, e = .returned (.tuple #[.pointer (some ⟨E, 0, none⟩), .bool true]) ∧ Below w.heap.size w w' ∧
      ElemOk E (ad.add (i * 5)) ⟨(Addr.add a3 (k * 9)).block, (Addr.add a3 (k * 9)).off + 4, none⟩ k false true w' ∧ w'.cell? ⟨(Addr.add a3 (k * 9)).block, (Addr.add a3 (k * 9)).off + 4, none⟩ = some (.int .i64 ts[i].f2[k].f4) ∧ ∃ cc, w.cell? ⟨(ad.add (i * 5)).block, (ad.add (i * 5)).off + 2, none⟩ = some (.slice (some a3) ts[i].f2.length cc) := by
  have hXl := blk_lt hX
  obtain ⟨W0, hW0⟩ : ∃ W0, W0 = (w.alloc (.cells #[.int .i64 table] 3)).alloc (.map #[] 0) := ⟨_, rfl⟩
  have hB0 : Below w.heap.size w W0 := by rw [hW0]; exact below_alloc (below_alloc (Below.refl _ _) _) _
  have hm0 : W0.heap[w.heap.size + 1]? = some (.map #[] 0) := by
    have := heap_alloc_new (w.alloc (.cells #[.int .i64 table] 3)) (.map #[] 0)
    rw [hW0]
    simpa using this
  have ht0 : W0.heap[w.heap.size]? = some (.cells #[.int .i64 table] 3 (0, 0)) := by rw [hW0]; exact blk_alloc (heap_alloc_new w _) _
  obtain ⟨W1, W2, W3, W4, W5, W6, i1, i2, i3, i4, i5, i6, hm6, hg6⟩ := finds_made W0 (w.heap.size + 1) hm0
  have hB6 : Below w.heap.size w W6 := hB0.grown hg6 hB0.size (fun k hk => by injection hk with hk; omega)
  have ht6 : W6.heap[w.heap.size]? = some (.cells #[.int .i64 table] 3 (0, 0)) := (hg6.block _ (blk_lt ht0) (fun e => by injection e with e; omega)).trans ht0
  have hlook := finds_look hm6 kind
  rw [hkd] at hlook
  have hx6 := blk_below hX hB6
  have x1 := blk_cell (j := 1) (v := .slice (some ad) ts.length c) hx6 rfl
  have HQ := Lib.hid (idx70 149 #[.pointer (some ⟨w.heap.size, 0, none⟩)] enters149 (fun x => x.f0 == table) (some ad) c ts W6 (Kd.C_below hC hB6) (pred149 table w.heap.size W6 (blk_lt ht6) (blk_cell ht6 rfl)))
  rw [idxL_same (fun x : S70 => x.f0 == table) (tId table) (fun x => by unfold tId; rfl), hi] at HQ
  have hmm := @run_makeMap Tryd.prog
  have hmf : ∀ (fn : Fn) (first cap : Array Value) (w : World), (Instr.makeFunc fn first cap).run Tryd.prog w = .ok (.func fn first cap) w := fun _ _ _ _ => rfl
  have hii : (i : Int) < (ts.length : Int) := by omega
  have hi0 : (0 : Int) ≤ (i : Int) := by omega
  have HC := Aside0.mk hC
  have HB6 := Aside0.mk hB6
  have HX6 := Aside0.mk hx6
  rw [hW0] at i1
  clear hC hX hi hB0 hm0 ht0 hm6 hg6 hB6 ht6 hx6 hkd
  clear hW0
  go_enter Tryd.func107, Tryd.ntmps107
  have HE := Lib.hid enters148
  go_wp2_with fail
  refine HQ.out.mono ?_
  rintro e w7 ⟨rfl, hb7⟩
  have hx7 := blk_below HX6.out hb7
  have HX7 := Aside0.mk hx7
  have HB7 := Aside0.mk (below_then HB6.out HB6.out.size hb7)
  have x1' := blk_cell (j := 1) (v := .slice (some ad) ts.length c) hx7 rfl
  clear hb7 hx7 x1 i1 i2 i3 i4 i5 i6 hlook HX6 HB6 HQ
  have heq := eql_f148
  go_wp2_with fail
  have hB8 := below_then HB7.out HB7.out.size (below_alloc (Below.refl _ w7) (.cells #[.pointer (some (ad.add (i * 5))), .pointer none, .int .i64 0, .bool false, .bool false] 148))
  obtain ⟨ad', A3, c3, A2, c2, eA, h0, -, h3, -, -, hd3, hinds, -, -⟩ := at_T70 HC.out (i : Int) (by omega) (by omega)
  rw [rd70 _ _ hil] at h0 h3 hd3 hinds
  simp only [Int.toNat_natCast] at h0 h3
  obtain rfl : ad = ad' := by injection eA
  obtain ⟨a3, eA3, -, -, -, q3, q4, -⟩ := at_T75 hinds (k : Int) (by omega) (by omega)
  have e4 := q4
  rw [rd75 _ _ hkl] at e4
  simp only [Int.toNat_natCast] at e4
  subst eA3
  have hlt := World.block_lt_of_cell? w _ h0
  have hpE : (ad.add (i * 5)).block ≠ w7.heap.size := by have := HB7.out.size; omega
  refine (cnul_yes w7.heap.size (ad.add (i * 5)) (.pointer none) 0 false false ts[i].f2 a3 c3 elem k _ (heap_alloc_new w7 _) rfl (pw_cell_below hB8 h3) (Kd.C_below hinds hB8) hpE hk hkl).mono ?_
  rintro e w9 ⟨rfl, hb9, hel⟩
  have hB9 := HB7.out.trans (show Below w.heap.size w7 w9 from ((below_alloc (Below.refl _ w7) _).trans hb9).mono HB7.out.size)
  have HF := Aside0.mk (And.intro hB9 (And.intro hel (And.intro (pw_cell_below hB9 e4) h3)))
  clear hb9 hel hB9 hB8 h0 h3 e4 hinds eA heq x1' hmm hmf
  go_wp2
  go_ret2
  exact ⟨w7.heap.size, a3, rfl, HF.out.1, HF.out.2.1, HF.out.2.2.1, _, HF.out.2.2.2⟩
set_option maxRecDepth 100000 in
set_option maxHeartbeats 4000000 in
theorem find_indexOf_no (X : Nat) (v nx kind table elem : Int) (ts : List S70) (ad : Addr) (c i : Nat) (w : World) (hkd : finder kind = .func (.func 146) #[] #[]) (hX : w.heap[X]? = some (.cells #[.int .i64 v, .slice (some ad) ts.length c, .int .i64 nx] 28 (0, 0))) (hC : k70.C w (some ad) ts.length ts)
    (hi : idxL (tId table) ts 0 = (i : Int)) (hil : i < ts.length) (hk : idxL (xId elem) ts[i].f3 0 = -1) :
    Calls Tryd.prog 107 #[.pointer (some ⟨X, 0, none⟩), .int .i64 kind, .int .i64 table, .int .i64 elem] w fun e w' => (∃ p, e = .returned (.tuple #[.pointer p, .bool false])) ∧ Below w.heap.size w w' := by
  have hXl := blk_lt hX
  obtain ⟨W0, hW0⟩ : ∃ W0, W0 = (w.alloc (.cells #[.int .i64 table] 3)).alloc (.map #[] 0) := ⟨_, rfl⟩
  have hB0 : Below w.heap.size w W0 := by rw [hW0]; exact below_alloc (below_alloc (Below.refl _ _) _) _
  have hm0 : W0.heap[w.heap.size + 1]? = some (.map #[] 0) := by
    have := heap_alloc_new (w.alloc (.cells #[.int .i64 table] 3)) (.map #[] 0)
    rw [hW0]
    simpa using this
  have ht0 : W0.heap[w.heap.size]? = some (.cells #[.int .i64 table] 3 (0, 0)) := by rw [hW0]; exact blk_alloc (heap_alloc_new w _) _
  obtain ⟨W1, W2, W3, W4, W5, W6, i1, i2, i3, i4, i5, i6, hm6, hg6⟩ := finds_made W0 (w.heap.size + 1) hm0
  have hB6 : Below w.heap.size w W6 := hB0.grown hg6 hB0.size (fun k hk => by injection hk with hk; omega)
  have ht6 : W6.heap[w.heap.size]? = some (.cells #[.int .i64 table] 3 (0, 0)) := (hg6.block _ (blk_lt ht0) (fun e => by injection e with e; omega)).trans ht0
  have hlook := finds_look hm6 kind
  rw [hkd] at hlook
  have hx6 := blk_below hX hB6
  have x1 := blk_cell (j := 1) (v := .slice (some ad) ts.length c) hx6 rfl
  have HQ := Lib.hid (idx70 149 #[.pointer (some ⟨w.heap.size, 0, none⟩)] enters149 (fun x => x.f0 == table) (some ad) c ts W6 (Kd.C_below hC hB6) (pred149 table w.heap.size W6 (blk_lt ht6) (blk_cell ht6 rfl)))
  rw [idxL_same (fun x : S70 => x.f0 == table) (tId table) (fun x => by unfold tId; rfl), hi] at HQ
  have hmm := @run_makeMap Tryd.prog
  have hmf : ∀ (fn : Fn) (first cap : Array Value) (w : World), (Instr.makeFunc fn first cap).run Tryd.prog w = .ok (.func fn first cap) w := fun _ _ _ _ => rfl
  have hii : (i : Int) < (ts.length : Int) := by omega
  have hi0 : (0 : Int) ≤ (i : Int) := by omega
  have HC := Aside0.mk hC
  have HB6 := Aside0.mk hB6
  have HX6 := Aside0.mk hx6
  rw [hW0] at i1
  clear hC hX hi hB0 hm0 ht0 hm6 hg6 hB6 ht6 hx6 hkd
  clear hW0
  go_enter Tryd.func107, Tryd.ntmps107
  have HE := Lib.hid enters146
  go_wp2_with fail
  refine HQ.out.mono ?_
  rintro e w7 ⟨rfl, hb7⟩
  have hx7 := blk_below HX6.out hb7
  have HX7 := Aside0.mk hx7
  have HB7 := Aside0.mk (below_then HB6.out HB6.out.size hb7)
  have x1' := blk_cell (j := 1) (v := .slice (some ad) ts.length c) hx7 rfl
  clear hb7 hx7 x1 i1 i2 i3 i4 i5 i6 hlook HX6 HB6 HQ
  have heq := eql_f146
  go_wp2_with fail
  have hB8 := below_then HB7.out HB7.out.size (below_alloc (Below.refl _ w7) (.cells #[.pointer (some (ad.add (i * 5))), .pointer none, .int .i64 0, .bool false, .bool false] 148))
  obtain ⟨ad', A2, c2, A3, c3, eA, h0, -, -, h3, -, -, -, hd3, hinds⟩ := at_T70 HC.out (i : Int) (by omega) (by omega)
  rw [rd70 _ _ hil] at h0 h3 hd3 hinds
  simp only [Int.toNat_natCast] at h0 h3
  obtain rfl : ad = ad' := by injection eA
  have hlt := World.block_lt_of_cell? w _ h0
  have hpE : (ad.add (i * 5)).block ≠ w7.heap.size := by have := HB7.out.size; omega
  refine (indexOf_no w7.heap.size (ad.add (i * 5)) (.pointer none) 0 false false ts[i].f3 A3 c3 elem _ (heap_alloc_new w7 _) (pw_cell_below hB8 h3) (Kd.C_below hinds hB8) hpE hk).mono ?_
  rintro e w9 ⟨rfl, hb9⟩
  have hB9 := HB7.out.trans (show Below w.heap.size w7 w9 from ((below_alloc (Below.refl _ w7) _).trans hb9).mono HB7.out.size)
  have HF := Aside0.mk hB9
  clear hb9 hB9 hB8 h0 h3 hinds eA heq x1' hmm hmf
  go_wp2
  go_ret2
  exact ⟨⟨_, rfl⟩, HF.out⟩
set_option maxRecDepth 100000 in
set_option maxHeartbeats 4000000 in
theorem find_ccol_no (X : Nat) (v nx kind table elem : Int) (ts : List S70) (ad : Addr) (c i : Nat) (w : World) (hkd : finder kind = .func (.func 147) #[] #[]) (hX : w.heap[X]? = some (.cells #[.int .i64 v, .slice (some ad) ts.length c, .int .i64 nx] 28 (0, 0))) (hC : k70.C w (some ad) ts.length ts)
    (hi : idxL (tId table) ts 0 = (i : Int)) (hil : i < ts.length) (hk : idxL (cId elem) ts[i].f2 0 = -1) :
    Calls Tryd.prog 107 #[.pointer (some ⟨X, 0, none⟩), .int .i64 kind, .int .i64 table, .int .i64 elem] w fun e w' => (∃ p, e = .returned (.tuple #[.pointer p, .bool false])) ∧ Below w.heap.size w w' := by
  have hXl := blk_lt hX
  obtain ⟨W0, hW0⟩ : ∃ W0, W0 = (w.alloc (.cells #[.int .i64 table] 3)).alloc (.map #[] 0) := ⟨_, rfl⟩
  have hB0 : Below w.heap.size w W0 := by rw [hW0]; exact below_alloc (below_alloc (Below.refl _ _) _) _
  have hm0 : W0.heap[w.heap.size + 1]? = some (.map #[] 0) := by
    have := heap_alloc_new (w.alloc (.cells #[.int .i64 table] 3)) (.map #[] 0)
    rw [hW0]
    simpa using this
  have ht0 : W0.heap[w.heap.size]? = some (.cells #[.int .i64 table] 3 (0, 0)) := by rw [hW0]; exact blk_alloc (heap_alloc_new w _) _
  obtain ⟨W1, W2, W3, W4, W5, W6, i1, i2, i3, i4, i5, i6, hm6, hg6⟩ := finds_made W0 (w.heap.size + 1) hm0
  have hB6 : Below w.heap.size w W6 := hB0.grown hg6 hB0.size (fun k hk => by injection hk with hk; omega)
  have ht6 : W6.heap[w.heap.size]? = some (.cells #[.int .i64 table] 3 (0, 0)) := (hg6.block _ (blk_lt ht0) (fun e => by injection e with e; omega)).trans ht0
  have hlook := finds_look hm6 kind
  rw [hkd] at hlook
  have hx6 := blk_below hX hB6
  have x1 := blk_cell (j := 1) (v := .slice (some ad) ts.length c) hx6 rfl
  have HQ := Lib.hid (idx70 149 #[.pointer (some ⟨w.heap.size, 0, none⟩)] enters149 (fun x => x.f0 == table) (some ad) c ts W6 (Kd.C_below hC hB6) (pred149 table w.heap.size W6 (blk_lt ht6) (blk_cell ht6 rfl)))
  rw [idxL_same (fun x : S70 => x.f0 == table) (tId table) (fun x => by unfold tId; rfl), hi] at HQ
  have hmm := @run_makeMap Tryd.prog
  have hmf : ∀ (fn : Fn) (first cap : Array Value) (w : World), (Instr.makeFunc fn first cap).run Tryd.prog w = .ok (.func fn first cap) w := fun _ _ _ _ => rfl
  have hii : (i : Int) < (ts.length : Int) := by omega
  have hi0 : (0 : Int) ≤ (i : Int) := by omega
  have HC := Aside0.mk hC
  have HB6 := Aside0.mk hB6
  have HX6 := Aside0.mk hx6
  rw [hW0] at i1
  clear hC hX hi hB0 hm0 ht0 hm6 hg6 hB6 ht6 hx6 hkd
  clear hW0
  go_enter Tryd.func107, Tryd.ntmps107
  have HE := Lib.hid enters147
  go_wp2_with fail
  refine HQ.out.mono ?_
  rintro e w7 ⟨rfl, hb7⟩
  have hx7 := blk_below HX6.out hb7
  have HX7 := Aside0.mk hx7
  have HB7 := Aside0.mk (below_then HB6.out HB6.out.size hb7)
  have x1' := blk_cell (j := 1) (v := .slice (some ad) ts.length c) hx7 rfl
  clear hb7 hx7 x1 i1 i2 i3 i4 i5 i6 hlook HX6 HB6 HQ
  have heq := eql_f147
  go_wp2_with fail
  have hB8 := below_then HB7.out HB7.out.size (below_alloc (Below.refl _ w7) (.cells #[.pointer (some (ad.add (i * 5))), .pointer none, .int .i64 0, .bool false, .bool false] 148))
  obtain ⟨ad', A3, c3, A2, c2, eA, h0, -, h3, -, -, hd3, hinds, -, -⟩ := at_T70 HC.out (i : Int) (by omega) (by omega)
  rw [rd70 _ _ hil] at h0 h3 hd3 hinds
  simp only [Int.toNat_natCast] at h0 h3
  obtain rfl : ad = ad' := by injection eA
  have hlt := World.block_lt_of_cell? w _ h0
  have hpE : (ad.add (i * 5)).block ≠ w7.heap.size := by have := HB7.out.size; omega
  refine (ccol_no w7.heap.size (ad.add (i * 5)) (.pointer none) 0 false false ts[i].f2 A3 c3 elem _ (heap_alloc_new w7 _) (pw_cell_below hB8 h3) (Kd.C_below hinds hB8) hpE hk).mono ?_
  rintro e w9 ⟨rfl, hb9⟩
  have hB9 := HB7.out.trans (show Below w.heap.size w7 w9 from ((below_alloc (Below.refl _ w7) _).trans hb9).mono HB7.out.size)
  have HF := Aside0.mk hB9
  clear hb9 hB9 hB8 h0 h3 hinds eA heq x1' hmm hmf
  go_wp2
  go_ret2
  exact ⟨⟨_, rfl⟩, HF.out⟩
set_option maxRecDepth 100000 in
set_option maxHeartbeats 4000000 in
theorem find_cnul_no (X : Nat) (v nx kind table elem : Int) (ts : List S70) (ad : Addr) (c i : Nat) (w : World) (hkd : finder kind = .func (.func 148) #[] #[]) (hX : w.heap[X]? = some (.cells #[.int .i64 v, .slice (some ad) ts.length c, .int .i64 nx] 28 (0, 0))) (hC : k70.C w (some ad) ts.length ts)
    (hi : idxL (tId table) ts 0 = (i : Int)) (hil : i < ts.length) (hk : idxL (cId elem) ts[i].f2 0 = -1) :
    Calls Tryd.prog 107 #[.pointer (some ⟨X, 0, none⟩), .int .i64 kind, .int .i64 table, .int .i64 elem] w fun e w' => (∃ p, e = .returned (.tuple #[.pointer p, .bool false])) ∧ Below w.heap.size w w' := by
  have hXl := blk_lt hX
  obtain ⟨W0, hW0⟩ : ∃ W0, W0 = (w.alloc (.cells #[.int .i64 table] 3)).alloc (.map #[] 0) := ⟨_, rfl⟩
  have hB0 : Below w.heap.size w W0 := by rw [hW0]; exact below_alloc (below_alloc (Below.refl _ _) _) _
  have hm0 : W0.heap[w.heap.size + 1]? = some (.map #[] 0) := by
    have := heap_alloc_new (w.alloc (.cells #[.int .i64 table] 3)) (.map #[] 0)
    rw [hW0]
    simpa using this
  have ht0 : W0.heap[w.heap.size]? = some (.cells #[.int .i64 table] 3 (0, 0)) := by rw [hW0]; exact blk_alloc (heap_alloc_new w _) _
  obtain ⟨W1, W2, W3, W4, W5, W6, i1, i2, i3, i4, i5, i6, hm6, hg6⟩ := finds_made W0 (w.heap.size + 1) hm0
  have hB6 : Below w.heap.size w W6 := hB0.grown hg6 hB0.size (fun k hk => by injection hk with hk; omega)
  have ht6 : W6.heap[w.heap.size]? = some (.cells #[.int .i64 table] 3 (0, 0)) := (hg6.block _ (blk_lt ht0) (fun e => by injection e with e; omega)).trans ht0
  have hlook := finds_look hm6 kind
  rw [hkd] at hlook
  have hx6 := blk_below hX hB6
  have x1 := blk_cell (j := 1) (v := .slice (some ad) ts.length c) hx6 rfl
  have HQ := Lib.hid (idx70 149 #[.pointer (some ⟨w.heap.size, 0, none⟩)] enters149 (fun x => x.f0 == table) (some ad) c ts W6 (Kd.C_below hC hB6) (pred149 table w.heap.size W6 (blk_lt ht6) (blk_cell ht6 rfl)))
  rw [idxL_same (fun x : S70 => x.f0 == table) (tId table) (fun x => by unfold tId; rfl), hi] at HQ
  have hmm := @run_makeMap Tryd.prog
  have hmf : ∀ (fn : Fn) (first cap : Array Value) (w : World), (Instr.makeFunc fn first cap).run Tryd.prog w = .ok (.func fn first cap) w := fun _ _ _ _ => rfl
  have hii : (i : Int) < (ts.length : Int) := by omega
  have hi0 : (0 : Int) ≤ (i : Int) := by omega
  have HC := Aside0.mk hC
  have HB6 := Aside0.mk hB6
  have HX6 := Aside0.mk hx6
  rw [hW0] at i1
  clear hC hX hi hB0 hm0 ht0 hm6 hg6 hB6 ht6 hx6 hkd
  clear hW0
  go_enter Tryd.func107, Tryd.ntmps107
  have HE := Lib.hid enters148
  go_wp2_with fail
  refine HQ.out.mono ?_
  rintro e w7 ⟨rfl, hb7⟩
  have hx7 := blk_below HX6.out hb7
  have HX7 := Aside0.mk hx7
  have HB7 := Aside0.mk (below_then HB6.out HB6.out.size hb7)
  have x1' := blk_cell (j := 1) (v := .slice (some ad) ts.length c) hx7 rfl
  clear hb7 hx7 x1 i1 i2 i3 i4 i5 i6 hlook HX6 HB6 HQ
  have heq := eql_f148
  go_wp2_with fail
  have hB8 := below_then HB7.out HB7.out.size (below_alloc (Below.refl _ w7) (.cells #[.pointer (some (ad.add (i * 5))), .pointer none, .int .i64 0, .bool false, .bool false] 148))
  obtain ⟨ad', A3, c3, A2, c2, eA, h0, -, h3, -, -, hd3, hinds, -, -⟩ := at_T70 HC.out (i : Int) (by omega) (by omega)
  rw [rd70 _ _ hil] at h0 h3 hd3 hinds
  simp only [Int.toNat_natCast] at h0 h3
  obtain rfl : ad = ad' := by injection eA
  have hlt := World.block_lt_of_cell? w _ h0
  have hpE : (ad.add (i * 5)).block ≠ w7.heap.size := by have := HB7.out.size; omega
  refine (cnul_no w7.heap.size (ad.add (i * 5)) (.pointer none) 0 false false ts[i].f2 A3 c3 elem _ (heap_alloc_new w7 _) (pw_cell_below hB8 h3) (Kd.C_below hinds hB8) hpE hk).mono ?_
  rintro e w9 ⟨rfl, hb9⟩
  have hB9 := HB7.out.trans (show Below w.heap.size w7 w9 from ((below_alloc (Below.refl _ w7) _).trans hb9).mono HB7.out.size)
  have HF := Aside0.mk hB9
  clear hb9 hB9 hB8 h0 h3 hinds eA heq x1' hmm hmf
  go_wp2
  go_ret2
  exact ⟨⟨_, rfl⟩, HF.out⟩
set_option maxRecDepth 100000 in
set_option maxHeartbeats 4000000 in
theorem find_nil (X : Nat) (v nx kind table elem : Int) (ts : List S70) (A : Option Addr) (c : Nat) (w : World) (hkd : finder kind = .nilFunc) (hX : w.heap[X]? = some (.cells #[.int .i64 v, .slice A ts.length c, .int .i64 nx] 28 (0, 0))) (hC : k70.C w A ts.length ts) :
    Calls Tryd.prog 107 #[.pointer (some ⟨X, 0, none⟩), .int .i64 kind, .int .i64 table, .int .i64 elem] w fun e w' => (∃ p, e = .returned (.tuple #[.pointer p, .bool false])) ∧ Below w.heap.size w w' := by
  have hXl := blk_lt hX
  obtain ⟨W0, hW0⟩ : ∃ W0, W0 = (w.alloc (.cells #[.int .i64 table] 3)).alloc (.map #[] 0) := ⟨_, rfl⟩
  have hB0 : Below w.heap.size w W0 := by rw [hW0]; exact below_alloc (below_alloc (Below.refl _ _) _) _
  have hm0 : W0.heap[w.heap.size + 1]? = some (.map #[] 0) := by
    have := heap_alloc_new (w.alloc (.cells #[.int .i64 table] 3)) (.map #[] 0)
    rw [hW0]
    simpa using this
  have ht0 : W0.heap[w.heap.size]? = some (.cells #[.int .i64 table] 3 (0, 0)) := by rw [hW0]; exact blk_alloc (heap_alloc_new w _) _
  obtain ⟨W1, W2, W3, W4, W5, W6, i1, i2, i3, i4, i5, i6, hm6, hg6⟩ := finds_made W0 (w.heap.size + 1) hm0
  have hB6 : Below w.heap.size w W6 := hB0.grown hg6 hB0.size (fun k hk => by injection hk with hk; omega)
  have ht6 : W6.heap[w.heap.size]? = some (.cells #[.int .i64 table] 3 (0, 0)) := (hg6.block _ (blk_lt ht0) (fun e => by injection e with e; omega)).trans ht0
  have hlook := finds_look hm6 kind
  rw [hkd] at hlook
  have hx6 := blk_below hX hB6
  have x1 := blk_cell (j := 1) (v := .slice A ts.length c) hx6 rfl
  have HQ := Lib.hid (idx70 149 #[.pointer (some ⟨w.heap.size, 0, none⟩)] enters149 (fun x => x.f0 == table) A c ts W6 (Kd.C_below hC hB6) (pred149 table w.heap.size W6 (blk_lt ht6) (blk_cell ht6 rfl)))
  rw [idxL_same (fun x : S70 => x.f0 == table) (tId table) (fun x => by unfold tId; rfl)] at HQ
  have hmm := @run_makeMap Tryd.prog
  have hmf : ∀ (fn : Fn) (first cap : Array Value) (w : World), (Instr.makeFunc fn first cap).run Tryd.prog w = .ok (.func fn first cap) w := fun _ _ _ _ => rfl
  have HC := Aside0.mk hC
  have HB6 := Aside0.mk hB6
  have HX6 := Aside0.mk hx6
  rw [hW0] at i1
  clear hC hX hB0 hm0 ht0 hm6 hg6 hB6 ht6 hx6 hkd
  clear hW0
  go_enter Tryd.func107, Tryd.ntmps107
  go_wp2_with fail
  refine HQ.out.mono ?_
  rintro e w7 ⟨rfl, hb7⟩
  have hx7 := blk_below HX6.out hb7
  have HX7 := Aside0.mk hx7
  have HB7 := Aside0.mk (below_then HB6.out HB6.out.size hb7)
  have x1' := blk_cell (j := 1) (v := .slice A ts.length c) hx7 rfl
  clear hb7 hx7 x1 i1 i2 i3 i4 i5 i6 hlook HX6 HB6 HQ
  have heq := eql_nilF
  go_wp2
  go_ret2
  exact ⟨⟨none, rfl⟩, HB7.out⟩
set_option maxRecDepth 100000 in
set_option maxHeartbeats 4000000 in
theorem find_notab (X : Nat) (v nx kind table elem : Int) (ts : List S70) (A : Option Addr) (c : Nat) (F : Nat) (w : World) (hkd : finder kind = .func (.func F) #[] #[]) (hi : idxL (tId table) ts 0 = -1) (heqF : ∀ w, (binOp BinOp.eql 176 (Value.func (Fn.func F) #[] #[]) Value.nilFunc).run Tryd.prog w = .ok (.bool false) w) (hX : w.heap[X]? = some (.cells #[.int .i64 v, .slice A ts.length c, .int .i64 nx] 28 (0, 0))) (hC : k70.C w A ts.length ts) :
    Calls Tryd.prog 107 #[.pointer (some ⟨X, 0, none⟩), .int .i64 kind, .int .i64 table, .int .i64 elem] w fun e w' => (∃ p, e = .returned (.tuple #[.pointer p, .bool false])) ∧ Below w.heap.size w w' := by
  have hXl := blk_lt hX
  obtain ⟨W0, hW0⟩ : ∃ W0, W0 = (w.alloc (.cells #[.int .i64 table] 3)).alloc (.map #[] 0) := ⟨_, rfl⟩
  have hB0 : Below w.heap.size w W0 := by rw [hW0]; exact below_alloc (below_alloc (Below.refl _ _) _) _
  have hm0 : W0.heap[w.heap.size + 1]? = some (.map #[] 0) := by
    have := heap_alloc_new (w.alloc (.cells #[.int .i64 table] 3)) (.map #[] 0)
    rw [hW0]
    simpa using this
  have ht0 : W0.heap[w.heap.size]? = some (.cells #[.int .i64 table] 3 (0, 0)) := by rw [hW0]; exact blk_alloc (heap_alloc_new w _) _
  obtain ⟨W1, W2, W3, W4, W5, W6, i1, i2, i3, i4, i5, i6, hm6, hg6⟩ := finds_made W0 (w.heap.size + 1) hm0
  have hB6 : Below w.heap.size w W6 := hB0.grown hg6 hB0.size (fun k hk => by injection hk with hk; omega)
  have ht6 : W6.heap[w.heap.size]? = some (.cells #[.int .i64 table] 3 (0, 0)) := (hg6.block _ (blk_lt ht0) (fun e => by injection e with e; omega)).trans ht0
  have hlook := finds_look hm6 kind
  rw [hkd] at hlook
  have hx6 := blk_below hX hB6
  have x1 := blk_cell (j := 1) (v := .slice A ts.length c) hx6 rfl
  have HQ := Lib.hid (idx70 149 #[.pointer (some ⟨w.heap.size, 0, none⟩)] enters149 (fun x => x.f0 == table) A c ts W6 (Kd.C_below hC hB6) (pred149 table w.heap.size W6 (blk_lt ht6) (blk_cell ht6 rfl)))
  rw [idxL_same (fun x : S70 => x.f0 == table) (tId table) (fun x => by unfold tId; rfl), hi] at HQ
  have hmm := @run_makeMap Tryd.prog
  have hmf : ∀ (fn : Fn) (first cap : Array Value) (w : World), (Instr.makeFunc fn first cap).run Tryd.prog w = .ok (.func fn first cap) w := fun _ _ _ _ => rfl
  have HC := Aside0.mk hC
  have HB6 := Aside0.mk hB6
  have HX6 := Aside0.mk hx6
  rw [hW0] at i1
  clear hC hX hi hB0 hm0 ht0 hm6 hg6 hB6 ht6 hx6 hkd
  clear hW0
  go_enter Tryd.func107, Tryd.ntmps107
  go_wp2_with fail
  refine HQ.out.mono ?_
  rintro e w7 ⟨rfl, hb7⟩
  have hx7 := blk_below HX6.out hb7
  have HX7 := Aside0.mk hx7
  have HB7 := Aside0.mk (below_then HB6.out HB6.out.size hb7)
  have x1' := blk_cell (j := 1) (v := .slice A ts.length c) hx7 rfl
  clear hb7 hx7 x1 i1 i2 i3 i4 i5 i6 hlook HX6 HB6 HQ
  have heq := heqF
  go_wp2
  go_ret2
  exact ⟨⟨none, rfl⟩, HB7.out⟩
end Go.Proofs.YtjgomlcdmpcoaaaDoor.H
namespace Go.Proofs.YtjgomlcdmpcoaaaDoor.H
open Go.RowKit Go.Proofs.YtjgomlcdmpcoaaaDoorW.PrintWords Go.Proofs.YtjgomlcdmpcoaaaDoorW.PrintLast Go.Proofs.YtjgomlcdmpcoaaaDoorW.PrintMore
open Go.Proofs.YtjgomlcdmpcoaaaDoor.D Go.Proofs.YtjgomlcdmpcoaaaDoor
set_option linter.unusedVariables false
set_option linter.unusedSimpArgs false
def tS (ts : List S70) (kind table elem : Int) : Int := if 0 ≤ idxL (tId table) ts 0 then elemI (rd_T70 ts (idxL (tId table) ts 0)) kind elem else -1
def StIn (ts : List S70) (s : Int) : Prop := ∃ t ∈ ts, (∃ c ∈ t.f2, s = c.f3 ∨ s = c.f4) ∨ (∃ x ∈ t.f3, s = x.f4)
def FndS (ts : List S70) (s : Int) (w w' : World) (e : Ending) : Prop :=
  Below w.heap.size w w' ∧ ((s = -1 ∧ ∃ p, e = .returned (.tuple #[.pointer p, .bool false])) ∨ (∃ E pa st k ix rl, e = .returned (.tuple #[.pointer (some ⟨E, 0, none⟩), .bool true]) ∧ ElemOk E pa st k ix rl w' ∧ w'.cell? st = some (.int .i64 s) ∧ StIn ts s))
theorem finder_cases (kind : Int) : (finder kind = .nilFunc ∧ ¬ (6 ≤ kind ∧ kind ≤ 11)) ∨ (finder kind = .func (.func 146) #[] #[] ∧ (kind = 6 ∨ kind = 7)) ∨ (finder kind = .func (.func 147) #[] #[] ∧ (kind = 8 ∨ kind = 9)) ∨ (finder kind = .func (.func 148) #[] #[] ∧ (kind = 10 ∨ kind = 11)) := by
  unfold finder
  by_cases h1 : kind = 6 ∨ kind = 7
  · rw [if_pos h1]; exact .inr (.inl ⟨rfl, h1⟩)
  rw [if_neg h1]
  by_cases h2 : kind = 8 ∨ kind = 9
  · rw [if_pos h2]; exact .inr (.inr (.inl ⟨rfl, h2⟩))
  rw [if_neg h2]
  by_cases h3 : kind = 10 ∨ kind = 11
  · rw [if_pos h3]; exact .inr (.inr (.inr ⟨rfl, h3⟩))
  rw [if_neg h3]
  exact .inl ⟨rfl, by omega⟩
theorem elemI_x (t : S70) {kind : Int} (h : kind = 6 ∨ kind = 7) (elem : Int) : elemI t kind elem = if 0 ≤ idxL (xId elem) t.f3 0 then (rd_T98 t.f3 (idxL (xId elem) t.f3 0)).f4 else -1 := by unfold elemI; rw [if_pos h]
theorem elemI_c (t : S70) {kind : Int} (h : kind = 8 ∨ kind = 9) (elem : Int) : elemI t kind elem = if 0 ≤ idxL (cId elem) t.f2 0 then (rd_T75 t.f2 (idxL (cId elem) t.f2 0)).f3 else -1 := by
  unfold elemI; rw [if_neg (by omega), if_pos (by omega), if_pos (show kind < 10 by omega)]
theorem elemI_n (t : S70) {kind : Int} (h : kind = 10 ∨ kind = 11) (elem : Int) : elemI t kind elem = if 0 ≤ idxL (cId elem) t.f2 0 then (rd_T75 t.f2 (idxL (cId elem) t.f2 0)).f4 else -1 := by
  unfold elemI; rw [if_neg (by omega), if_pos (by omega), if_neg (show ¬ kind < 10 by omega)]
theorem elemI_0 (t : S70) {kind : Int} (h : ¬ (6 ≤ kind ∧ kind ≤ 11)) (elem : Int) : elemI t kind elem = -1 := by
  unfold elemI; rw [if_neg (by omega), if_neg (by omega)]
theorem fnd_no {ts : List S70} {s : Int} {w w' : World} {e : Ending} (hs : s = -1) (h : (∃ p, e = .returned (.tuple #[.pointer p, .bool false])) ∧ Below w.heap.size w w') : FndS ts s w w' e := ⟨h.2, .inl ⟨hs, h.1⟩⟩
theorem find_calls (X : Nat) (v nx kind table elem : Int) (ts : List S70) (A : Option Addr) (c : Nat) (w : World) (hX : w.heap[X]? = some (.cells #[.int .i64 v, .slice A ts.length c, .int .i64 nx] 28 (0, 0))) (hC : k70.C w A ts.length ts) :
    Calls Tryd.prog 107 #[.pointer (some ⟨X, 0, none⟩), .int .i64 kind, .int .i64 table, .int .i64 elem] w fun e w' => FndS ts (tS ts kind table elem) w w' e := by
  rcases idxL_at (tId table) ts with hi | ⟨i, hil, hi, -⟩
  · have hs : tS ts kind table elem = -1 := by unfold tS; rw [hi, if_neg (by omega)]
    rcases finder_cases kind with ⟨h, -⟩ | ⟨h, -⟩ | ⟨h, -⟩ | ⟨h, -⟩
    · exact (find_nil X v nx kind table elem ts A c w h hX hC).mono fun e w' h => fnd_no hs h
    · exact (find_notab X v nx kind table elem ts A c 146 w h hi eql_f146 hX hC).mono fun e w' h => fnd_no hs h
    · exact (find_notab X v nx kind table elem ts A c 147 w h hi eql_f147 hX hC).mono fun e w' h => fnd_no hs h
    · exact (find_notab X v nx kind table elem ts A c 148 w h hi eql_f148 hX hC).mono fun e w' h => fnd_no hs h
  · have hs : tS ts kind table elem = elemI ts[i] kind elem := by unfold tS; rw [hi, if_pos (by omega), rd70 _ _ hil]
    have hm : ts[i] ∈ ts := List.getElem_mem hil
    rw [hs]
    obtain ⟨ad, A2, c2, A3, c3, eA, -⟩ := at_T70 hC (i : Int) (by omega) (by omega)
    subst eA
    rcases finder_cases kind with ⟨h, hk⟩ | ⟨h, hk⟩ | ⟨h, hk⟩ | ⟨h, hk⟩
    · exact (find_nil X v nx kind table elem ts (some ad) c w h hX hC).mono fun e w' h => fnd_no (elemI_0 _ hk elem) h
    · rw [elemI_x _ hk]
      rcases idxL_at (xId elem) ts[i].f3 with hq | ⟨k, hkl, hq, -⟩
      · exact (find_indexOf_no X v nx kind table elem ts ad c i w h hX hC hi hil hq).mono fun e w' h => fnd_no (by rw [hq, if_neg (by omega)]) h
      · rw [hq, if_pos (by omega), rd98 _ _ hkl]
        exact (find6_yes X v nx kind table elem ts ad c i k w h hX hC hi hil hq hkl).mono fun e w' ⟨E, a3, he, hb, hel, hst, _⟩ => ⟨hb, .inr ⟨E, _, _, k, true, false, he, hel, hst, _, hm, .inr ⟨_, List.getElem_mem hkl, rfl⟩⟩⟩
    · rw [elemI_c _ hk]
      rcases idxL_at (cId elem) ts[i].f2 with hq | ⟨k, hkl, hq, -⟩
      · exact (find_ccol_no X v nx kind table elem ts ad c i w h hX hC hi hil hq).mono fun e w' h => fnd_no (by rw [hq, if_neg (by omega)]) h
      · rw [hq, if_pos (by omega), rd75 _ _ hkl]
        exact (find_ccol_yes X v nx kind table elem ts ad c i k w h hX hC hi hil hq hkl).mono fun e w' ⟨E, a3, he, hb, hel, hst, _⟩ => ⟨hb, .inr ⟨E, _, _, k, false, false, he, hel, hst, _, hm, .inl ⟨_, List.getElem_mem hkl, .inl rfl⟩⟩⟩
    · rw [elemI_n _ hk]
      rcases idxL_at (cId elem) ts[i].f2 with hq | ⟨k, hkl, hq, -⟩
      · exact (find_cnul_no X v nx kind table elem ts ad c i w h hX hC hi hil hq).mono fun e w' h => fnd_no (by rw [hq, if_neg (by omega)]) h
      · rw [hq, if_pos (by omega), rd75 _ _ hkl]
        exact (find_cnul_yes X v nx kind table elem ts ad c i k w h hX hC hi hil hq hkl).mono fun e w' ⟨E, a3, he, hb, hel, hst, _⟩ => ⟨hb, .inr ⟨E, _, _, k, false, true, he, hel, hst, _, hm, .inl ⟨_, List.getElem_mem hkl, .inr rfl⟩⟩⟩
theorem stIn_pos {v nx : Int} {ts : List S70} (h : schB v ts nx = true) {s : Int} (hs : StIn ts s) : 0 ≤ s ∧ s ≤ 4 := by
  obtain ⟨t, ht, hq⟩ := hs
  have hb := schB_tab h t ht
  unfold tableB at hb
  simp only [Bool.and_eq_true, decide_eq_true_eq] at hb
  obtain ⟨_, _, _, _, _, _, h7, h8, _⟩ := hb
  rcases hq with ⟨c, hc, hq⟩ | ⟨x, hx, hq⟩
  · have := tcolsB_all _ _ _ h7 c hc
    unfold columnB stateB at this
    simp only [Bool.and_eq_true, decide_eq_true_eq] at this
    rcases hq with rfl | rfl <;> omega
  · have := tindsB_all _ _ _ h8 x hx
    unfold indexB stateB at this
    simp only [Bool.and_eq_true, decide_eq_true_eq] at this
    omega
set_option maxRecDepth 100000 in
set_option maxHeartbeats 4000000 in
theorem cstate_calls (v : Int) (ts : List S70) (nx kind table elem : Int) (hwf : ∀ t ∈ ts, TabWf t) (A : Option Addr) (c : Nat) (w : World) (hG : GL w) (hc : ts.length ≤ c) (hC : k70.C w A ts.length ts) :
    Calls Tryd.prog 53 #[.agg #[.int .i64 v, .slice A ts.length c, .int .i64 nx], .int .i64 kind, .int .i64 table, .int .i64 elem] w fun e w' => e = .returned (.tuple #[.int .i64 (if stateI v ts nx kind table elem < 0 then 0 else stateI v ts nx kind table elem), .bool (decide (0 ≤ stateI v ts nx kind table elem))]) ∧ Below w.heap.size w w' := by
  have hb0 := below_alloc (Below.refl _ w) (.cells #[.int .i64 v, .slice A ts.length c, .int .i64 nx] 28)
  have HM := Lib.hid (may_calls v ts nx hwf A c (w.alloc (.cells #[.int .i64 v, .slice A ts.length c, .int .i64 nx] 28)) (hG.of_below hb0) (Kd.C_below hC hb0))
  have HX := Aside0.mk (heap_alloc_new w (.cells #[.int .i64 v, .slice A ts.length c, .int .i64 nx] 28))
  have HF := Lib.hid (fun (w' : World) (hb : Below w.heap.size w w') hX => find_calls w.heap.size v nx kind table elem ts A c w' hX (Kd.C_below hC hb))
  have HB0 := Aside0.mk hb0
  obtain ⟨s, hs⟩ : ∃ s, stateI v ts nx kind table elem = s := ⟨_, rfl⟩
  have hst : (schB v ts nx = false ∧ s = -1) ∨ (schB v ts nx = true ∧ tS ts kind table elem = s) := by
    rw [← hs]
    unfold stateI tS
    cases hq : schB v ts nx with
    | false => left; exact ⟨rfl, by split <;> simp⟩
    | true => right; exact ⟨rfl, by split <;> simp⟩
  rw [hs]
  clear hs hb0 hC hG hwf
  rcases hst with ⟨h1, rfl⟩ | ⟨h1, h2⟩
  · rw [h1] at HM
    clear h1 HF
    go_enter Tryd.func53, Tryd.ntmps53
    go_wp2_with fail
    refine HM.out.mono ?_
    rintro e w1 ⟨rfl, hb1⟩
    have HB1 := Aside0.mk (below_then HB0.out (by simp) hb1)
    clear hb1 HM
    go_wp2
    go_ret2
    exact ⟨rfl, HB1.out⟩
  · rw [h2] at HF
    have HP := Lib.hid (fun hs => stIn_pos h1 (s := s) hs)
    rw [h1] at HM
    obtain ⟨r, hr⟩ : ∃ r, (if s < 0 then 0 else s) = r := ⟨_, rfl⟩
    obtain ⟨b, hb⟩ : ∃ b, decide (0 ≤ s) = b := ⟨_, rfl⟩
    rw [hr, hb]
    have HRB := Lib.hid (And.intro hr hb)
    clear h1 h2 hr hb
    go_enter Tryd.func53, Tryd.ntmps53
    go_wp2_with fail
    refine HM.out.mono ?_
    rintro e w1 ⟨rfl, hb1⟩
    have HB1 := Aside0.mk (below_then HB0.out (by simp) hb1)
    have hx1 := blk_below HX.out hb1
    have HX1 := Aside0.mk hx1
    clear hb1 hx1 HM HB0 HX
    go_wp2_with fail
    refine (HF.out _ HB1.out HX1.out).mono ?_
    rintro e w2 ⟨hb2, ⟨rfl, p, rfl⟩ | ⟨E, pa, st, k, ix, rl, rfl, hel, hst, hin⟩⟩
    · have HB2 := Aside0.mk (below_then HB1.out HB1.out.size hb2)
      obtain rfl : r = 0 := by rw [← HRB.out.1]; rfl
      obtain rfl : b = false := by rw [← HRB.out.2]; rfl
      clear hb2 HF HRB
      go_wp2
      go_ret2
      exact ⟨rfl, HB2.out⟩
    · have HB2 := Aside0.mk (below_then HB1.out HB1.out.size hb2)
      have hp := (HP.out hin).1
      have e1 := blk_cell (j := 1) (v := .pointer (some st)) hel rfl
      obtain rfl : r = s := by rw [← HRB.out.1, if_neg (by omega)]
      obtain rfl : b = true := by rw [← HRB.out.2, decide_eq_true hp]
      clear hb2 hel HF hp HRB
      go_wp2
      go_ret2
      exact ⟨rfl, HB2.out⟩
end Go.Proofs.YtjgomlcdmpcoaaaDoor.H
namespace Go.Proofs.YtjgomlcdmpcoaaaDoor.H
open Go.RowKit Go.Proofs.YtjgomlcdmpcoaaaDoorW.PrintWords Go.Proofs.YtjgomlcdmpcoaaaDoorW.PrintLast Go.Proofs.YtjgomlcdmpcoaaaDoorW.PrintMore
open Go.Proofs.YtjgomlcdmpcoaaaDoor.D Go.Proofs.YtjgomlcdmpcoaaaDoor
set_option linter.unusedVariables false
set_option linter.unusedSimpArgs false
def stepR (v : Int) (ts : List S70) (nx : Int) (i : Nat) (c : Int) (t : S70) : Told := if c ≠ 0 then noTold c else ⟨v + 1, ts.set i t, nx, 0, 0, 0⟩
theorem nxtE_ne {v : Int} {ts : List S70} {nx : Int} (h : nxtE v ts nx ≠ 0) (kind table elem : Int) (up : Bool) : stepP v ts nx kind table elem up = noTold (nxtE v ts nx) := by
  unfold nxtE at h ⊢
  unfold stepP
  by_cases h1 : schB v ts nx = false
  · rw [if_pos h1, if_pos h1]
  · rw [if_neg h1] at h ⊢
    rw [if_neg h1]
    by_cases h2 : 1099511627775 ≤ v
    · rw [if_pos h2, if_pos h2]
    · rw [if_neg h2] at h
      exact absurd rfl h
theorem nxtE_eq {v : Int} {ts : List S70} {nx : Int} (h : nxtE v ts nx = 0) : schB v ts nx = true ∧ ¬ 1099511627775 ≤ v := by
  unfold nxtE at h
  by_cases h1 : schB v ts nx = false
  · rw [if_pos h1] at h; cases h
  · rw [if_neg h1] at h
    refine ⟨by simpa using h1, fun h2 => ?_⟩
    rw [if_pos h2] at h
    cases h
theorem stepP_none {v : Int} {ts : List S70} {nx : Int} (h : nxtE v ts nx = 0) {kind table elem : Int} (hs : tS ts kind table elem < 0) (up : Bool) : stepP v ts nx kind table elem up = noTold 5 := by
  obtain ⟨h1, h2⟩ := nxtE_eq h
  have h3 : stateI v ts nx kind table elem < 0 := by
    unfold tS at hs
    unfold stateI
    by_cases hq : 0 ≤ idxL (tId table) ts 0
    · rw [if_pos hq] at hs ⊢
      rw [if_pos h1]
      exact hs
    · rw [if_neg hq]
      omega
  unfold stepP
  rw [if_neg (by rw [h1]; simp), if_neg h2, if_pos h3]
section
variable {v : Int} {ts : List S70} {nx kind table elem : Int} {i k : Nat} (h : nxtE v ts nx = 0) (hi : idxL (tId table) ts 0 = (i : Int)) (hil : i < ts.length)
include h hi hil
theorem step_some {st : Int} (hs : elemI ts[i] kind elem = st) (h0 : 0 ≤ st) (up : Bool) : stepP v ts nx kind table elem up = if (up = true ∧ st = 4) ∨ (up = false ∧ st = 0) then noTold 12
  else if 8 ≤ kind ∧ idxL (cId elem) ts[i].f2 0 = 0 then noTold 8
  else if up = false ∧ st = 1 ∧ (kind = 8 ∨ kind = 9) ∧ usedB elem ts[i].f3 = true then noTold 18
  else ⟨v + 1, ts.set i (turnP ts[i] kind elem (byI up)), nx, 0, 0, 0⟩ := by
  obtain ⟨h1, h2⟩ := nxtE_eq h
  have h3 : stateI v ts nx kind table elem = st := by
    unfold stateI
    rw [hi, if_pos (by omega), if_pos h1, rd70 _ _ hil, hs]
  unfold stepP
  rw [h3, if_neg (by rw [h1]; simp), if_neg h2, if_neg (by omega), hi, rd70 _ _ hil, Int.toNat_natCast]
  rfl
theorem stepP_X (hk : kind = 6 ∨ kind = 7) (he : idxL (xId elem) ts[i].f3 0 = (k : Int)) (hkl : k < ts[i].f3.length) (h0 : 0 ≤ ts[i].f3[k].f4) (up : Bool) :
    stepP v ts nx kind table elem up = stepR v ts nx i (turnXE (rd_T98 ts[i].f3 (k : Int)).f4 up) (turnI ts[i] k ((rd_T98 ts[i].f3 (k : Int)).f4 + byI up)) := by
  have hs : elemI ts[i] kind elem = (rd_T98 ts[i].f3 (k : Int)).f4 := by rw [elemI_x _ hk, he, if_pos (by omega)]
  rw [step_some h hi hil hs (by rw [rd98 _ _ hkl]; exact h0) up]
  unfold stepR turnXE
  by_cases hq : (up = true ∧ (rd_T98 ts[i].f3 (k : Int)).f4 = 4) ∨ (up = false ∧ (rd_T98 ts[i].f3 (k : Int)).f4 = 0)
  · rw [if_pos hq, if_pos hq, if_pos (by decide)]
  · rw [if_neg hq, if_neg hq, if_neg (by omega), if_neg (by omega), if_neg (by simp)]
    unfold turnP
    rw [if_pos hk, he, hs, Int.toNat_natCast]
theorem stepP_C (hk : kind = 8 ∨ kind = 9) (he : idxL (cId elem) ts[i].f2 0 = (k : Int)) (hid : ts[i].f2[k]?.map (·.f0) = some elem) (hkl : k < ts[i].f2.length) (h0 : 0 ≤ ts[i].f2[k].f3) (up : Bool) :
    stepP v ts nx kind table elem up = stepR v ts nx i (turnCE ts[i] k up) (turnC ts[i] k ((rd_T75 ts[i].f2 (k : Int)).f3 + byI up)) := by
  have hs : elemI ts[i] kind elem = (rd_T75 ts[i].f2 (k : Int)).f3 := by rw [elemI_c _ hk, he, if_pos (by omega)]
  have hf : (rd_T75 ts[i].f2 (k : Int)).f0 = elem := by
    rw [rd75 _ _ hkl]
    rw [List.getElem?_eq_getElem hkl] at hid
    simpa using hid
  rw [step_some h hi hil hs (by rw [rd75 _ _ hkl]; exact h0) up]
  unfold stepR turnCE
  rw [hf, he]
  by_cases hq : (up = true ∧ (rd_T75 ts[i].f2 (k : Int)).f3 = 4) ∨ (up = false ∧ (rd_T75 ts[i].f2 (k : Int)).f3 = 0)
  · rw [if_pos hq, if_pos hq, if_pos (by decide)]
  · rw [if_neg hq, if_neg hq]
    by_cases hz : k = 0
    · rw [if_pos ⟨by omega, by omega⟩, if_pos hz, if_pos (by decide)]
    · rw [if_neg (by omega), if_neg hz]
      by_cases hu : up = false ∧ (rd_T75 ts[i].f2 (k : Int)).f3 = 1 ∧ usedB elem ts[i].f3 = true
      · rw [if_pos ⟨hu.1, hu.2.1, hk, hu.2.2⟩, if_pos hu, if_pos (by decide)]
      · rw [if_neg (fun h => hu ⟨h.1, h.2.1, h.2.2.2⟩), if_neg hu, if_neg (by simp)]
        unfold turnP
        rw [if_neg (by omega), if_pos hk, he, hs, Int.toNat_natCast]
theorem stepP_N (hk : kind = 10 ∨ kind = 11) (he : idxL (cId elem) ts[i].f2 0 = (k : Int)) (hkl : k < ts[i].f2.length) (h0 : 0 ≤ ts[i].f2[k].f4) (up : Bool) :
    stepP v ts nx kind table elem up = stepR v ts nx i (turnNE ts[i] k up) (turnN ts[i] k ((rd_T75 ts[i].f2 (k : Int)).f4 + byI up)) := by
  have hs : elemI ts[i] kind elem = (rd_T75 ts[i].f2 (k : Int)).f4 := by rw [elemI_n _ hk, he, if_pos (by omega)]
  rw [step_some h hi hil hs (by rw [rd75 _ _ hkl]; exact h0) up]
  unfold stepR turnNE
  rw [he]
  by_cases hq : (up = true ∧ (rd_T75 ts[i].f2 (k : Int)).f4 = 4) ∨ (up = false ∧ (rd_T75 ts[i].f2 (k : Int)).f4 = 0)
  · rw [if_pos hq, if_pos hq, if_pos (by decide)]
  · rw [if_neg hq, if_neg hq]
    by_cases hz : k = 0
    · rw [if_pos ⟨by omega, by omega⟩, if_pos hz, if_pos (by decide)]
    · rw [if_neg (by omega), if_neg hz, if_neg (by omega), if_neg (by simp)]
      unfold turnP
      rw [if_neg (by omega), if_neg (by omega), he, hs, Int.toNat_natCast]
end
theorem idx_id {l : List S75} {elem : Int} {k : Nat} (he : idxL (cId elem) l 0 = (k : Int)) (hkl : k < l.length) : l[k]?.map (·.f0) = some elem := by
  rcases idxL_at (cId elem) l with h | ⟨j, hj, h, hp⟩
  · omega
  · obtain rfl : j = k := by omega
    rw [List.getElem?_eq_getElem hj]
    unfold cId at hp
    simpa using hp
inductive Cls (ts : List S70) (kind table elem : Int) (i k : Nat) (hil : i < ts.length) : Prop
  | X (hk : kind = 6 ∨ kind = 7) (he : idxL (xId elem) ts[i].f3 0 = (k : Int)) (hkl : k < ts[i].f3.length)
  | C (hk : kind = 8 ∨ kind = 9) (he : idxL (cId elem) ts[i].f2 0 = (k : Int)) (hkl : k < ts[i].f2.length)
  | N (hk : kind = 10 ∨ kind = 11) (he : idxL (cId elem) ts[i].f2 0 = (k : Int)) (hkl : k < ts[i].f2.length)
theorem cls_of (ts : List S70) (kind table elem : Int) : tS ts kind table elem < 0 ∨ ∃ (i k : Nat) (hil : i < ts.length), idxL (tId table) ts 0 = (i : Int) ∧ Cls ts kind table elem i k hil := by
  rcases idxL_at (tId table) ts with hi | ⟨i, hil, hi, -⟩
  · left; unfold tS; rw [hi, if_neg (by omega)]; omega
  have hs : tS ts kind table elem = elemI ts[i] kind elem := by unfold tS; rw [hi, if_pos (by omega), rd70 _ _ hil]
  rw [hs]
  rcases finder_cases kind with ⟨-, hk⟩ | ⟨-, hk⟩ | ⟨-, hk⟩ | ⟨-, hk⟩
  · left; rw [elemI_0 _ hk elem]; omega
  · rw [elemI_x _ hk]
    rcases idxL_at (xId elem) ts[i].f3 with hq | ⟨k, hkl, hq, -⟩
    · left; rw [hq, if_neg (by omega)]; omega
    · exact .inr ⟨i, k, hil, hi, .X hk hq hkl⟩
  · rw [elemI_c _ hk]
    rcases idxL_at (cId elem) ts[i].f2 with hq | ⟨k, hkl, hq, -⟩
    · left; rw [hq, if_neg (by omega)]; omega
    · exact .inr ⟨i, k, hil, hi, .C hk hq hkl⟩
  · rw [elemI_n _ hk]
    rcases idxL_at (cId elem) ts[i].f2 with hq | ⟨k, hkl, hq, -⟩
    · left; rw [hq, if_neg (by omega)]; omega
    · exact .inr ⟨i, k, hil, hi, .N hk hq hkl⟩
def FoundAt (w W : World) (E g cap : Nat) (ts : List S70) (i : Nat) (up : Bool) (c : Int) (t : S70) : Prop :=
  Calls Tryd.prog 108 #[.pointer (some ⟨E, 0, none⟩), .bool up] W (TurnPost w W g ts.length cap ts i c t)
set_option maxHeartbeats 1000000 in
theorem found_calls (v : Int) (ts : List S70) (nx : Int) (kind table elem : Int) (up : Bool) (h : nxtE v ts nx = 0) (i k : Nat) (hil : i < ts.length) (hi : idxL (tId table) ts 0 = (i : Int)) (hcl : Cls ts kind table elem i k hil)
    (w W : World) (X g cap : Nat) (hB : Below w.heap.size w W) (hS : Kd.S k70 70 W w.heap.size (fun _ => True) (.slice (some ⟨g, 0, none⟩) ts.length cap) ts) (hX : W.heap[X]? = some (.cells #[.int .i64 (v + 1), .slice (some ⟨g, 0, none⟩) ts.length cap, .int .i64 nx] 28 (0, 0))) :
    ∃ c t, stepP v ts nx kind table elem up = stepR v ts nx i c t ∧ Calls Tryd.prog 107 #[.pointer (some ⟨X, 0, none⟩), .int .i64 kind, .int .i64 table, .int .i64 elem] W fun e W' => ∃ E, e = .returned (.tuple #[.pointer (some ⟨E, 0, none⟩), .bool true]) ∧ Below W.heap.size W W' ∧ FoundAt w W' E g cap ts i up c t := by
  obtain ⟨-, hlc, hC⟩ := Kd.S_reads' hS
  obtain ⟨hsch, hv⟩ := nxtE_eq h
  obtain ⟨oki, cv, iv, hL⟩ := lend hS hil
  have htb := schB_tab hsch _ (List.getElem_mem hil)
  have hm : ts[i] ∈ ts := List.getElem_mem hil
  cases hcl with
  | X hk he hkl =>
    have h0 := (stIn_pos hsch ⟨_, hm, .inr ⟨_, List.getElem_mem hkl, rfl⟩⟩).1
    refine ⟨_, _, stepP_X h hi hil hk he hkl h0 up, ?_⟩
    have hfk : finder kind = .func (.func 146) #[] #[] := by unfold finder; rw [if_pos hk]
    refine (find6_yes X (v + 1) nx kind table elem ts ⟨g, 0, none⟩ cap i k W hfk hX hC hi hil he hkl).mono ?_
    rintro e W' ⟨E, a3, rfl, hb, hel, -, cc, hsl⟩
    refine ⟨E, rfl, hb, ?_⟩
    obtain ⟨gi, ci, hgi, -⟩ := Kd.R_form hL.inds (by omega)
    have hc3 := hL.cell 3 rfl
    rw [add_plain] at hsl hel
    rw [show (⟨g, i * 5, none⟩ : Addr).block = g from rfl, show (⟨g, i * 5, none⟩ : Addr).off = i * 5 from rfl, hc3, hgi] at hsl
    injection hsl with hsl
    injection hsl with hsl _ _
    injection hsl with hsl
    subst hsl
    rw [add_plain] at hel
    cases up with
    | true => exact turnX_up w W' g ts.length cap ts i oki ts[i] cv iv gi _ ci E k (below_then hB hB.size hb) (hL.step hb) htb hgi hkl hel
    | false => exact turnX_dn w W' g ts.length cap ts i oki ts[i] cv iv gi _ ci E k (below_then hB hB.size hb) (hL.step hb) htb hgi hkl hel
  | C hk he hkl =>
    have h0 := (stIn_pos hsch ⟨_, hm, .inl ⟨_, List.getElem_mem hkl, .inl rfl⟩⟩).1
    refine ⟨_, _, stepP_C h hi hil hk he (idx_id he hkl) hkl h0 up, ?_⟩
    have hfk : finder kind = .func (.func 147) #[] #[] := by unfold finder; rw [if_neg (by omega), if_pos hk]
    refine (find_ccol_yes X (v + 1) nx kind table elem ts ⟨g, 0, none⟩ cap i k W hfk hX hC hi hil he hkl).mono ?_
    rintro e W' ⟨E, a3, rfl, hb, hel, -, cc, hsl⟩
    refine ⟨E, rfl, hb, ?_⟩
    obtain ⟨gi, ci, hgi, -⟩ := Kd.R_form hL.cols (by omega)
    have hc3 := hL.cell 2 rfl
    rw [add_plain] at hsl hel
    rw [show (⟨g, i * 5, none⟩ : Addr).block = g from rfl, show (⟨g, i * 5, none⟩ : Addr).off = i * 5 from rfl, hc3, hgi] at hsl
    injection hsl with hsl
    injection hsl with hsl _ _
    injection hsl with hsl
    subst hsl
    rw [add_plain] at hel
    cases up with
    | true => exact turnC_up w W' g ts.length cap ts i oki ts[i] cv iv gi _ ci E k (below_then hB hB.size hb) (hL.step hb) htb hgi hkl hel
    | false => exact turnC_dn w W' g ts.length cap ts i oki ts[i] cv iv gi _ ci E k (below_then hB hB.size hb) (hL.step hb) htb hgi hkl hel
  | N hk he hkl =>
    have h0 := (stIn_pos hsch ⟨_, hm, .inl ⟨_, List.getElem_mem hkl, .inr rfl⟩⟩).1
    refine ⟨_, _, stepP_N h hi hil hk he hkl h0 up, ?_⟩
    have hfk : finder kind = .func (.func 148) #[] #[] := by unfold finder; rw [if_neg (by omega), if_neg (by omega), if_pos hk]
    refine (find_cnul_yes X (v + 1) nx kind table elem ts ⟨g, 0, none⟩ cap i k W hfk hX hC hi hil he hkl).mono ?_
    rintro e W' ⟨E, a3, rfl, hb, hel, -, cc, hsl⟩
    refine ⟨E, rfl, hb, ?_⟩
    obtain ⟨gi, ci, hgi, -⟩ := Kd.R_form hL.cols (by omega)
    have hc3 := hL.cell 2 rfl
    rw [add_plain] at hsl hel
    rw [show (⟨g, i * 5, none⟩ : Addr).block = g from rfl, show (⟨g, i * 5, none⟩ : Addr).off = i * 5 from rfl, hc3, hgi] at hsl
    injection hsl with hsl
    injection hsl with hsl _ _
    injection hsl with hsl
    subst hsl
    rw [add_plain] at hel
    cases up with
    | true => exact turnN_up w W' g ts.length cap ts i oki ts[i] cv iv gi _ ci E k (below_then hB hB.size hb) (hL.step hb) htb hgi hkl hel
    | false => exact turnN_dn w W' g ts.length cap ts i oki ts[i] cv iv gi _ ci E k (below_then hB hB.size hb) (hL.step hb) htb hgi hkl hel
set_option maxRecDepth 100000 in
set_option maxHeartbeats 8000000 in
theorem stepG_calls (v : Int) (ts : List S70) (nx : Int) (kind table elem : Int) (up : Bool) (hwf : ∀ t ∈ ts, TabWf t) (hv64 : -9223372036854775808 ≤ v ∧ v < 9223372036854775808) (A : Option Addr) (c : Nat) (w : World) (hG : GL w) (hc : ts.length ≤ c) (hC : k70.C w A ts.length ts) :
    Calls Tryd.prog 52 #[.agg #[.int .i64 v, .slice A ts.length c, .int .i64 nx], .int .i64 kind, .int .i64 table, .int .i64 elem, .bool up] w (TellsE w (stepP v ts nx kind table elem up)) := by
  obtain ⟨w0, hw0⟩ : ∃ w0, w0 = (w.alloc (.cells #[.int .i64 v, .slice A ts.length c, .int .i64 nx] 28)).alloc (.cells #[.int .i64 0, .slice none 0 0, .int .i64 0] 28) := ⟨_, rfl⟩
  have hb0 : Below w.heap.size w w0 := by rw [hw0]; exact below_alloc (below_alloc (Below.refl _ _) _) _
  have hB0 : CopB w w0 v nx (.slice A ts.length c) := by
    rw [hw0]
    refine ⟨blk_alloc (heap_alloc_new w _) _, ?_⟩
    have := heap_alloc_new (w.alloc (.cells #[.int .i64 v, .slice A ts.length c, .int .i64 nx] 28)) (.cells #[.int .i64 0, .slice none 0 0, .int .i64 0] 28)
    simpa using this
  have HM := Lib.hid (cnext_calls v ts nx hwf hv64 A c w0 (hG.of_below hb0) hc (Kd.C_below hC hb0))
  have hx0 := blk_cell (j := 0) (v := .int .i64 v) hB0.b0 rfl
  have hx1 := blk_cell (j := 1) (v := .slice A ts.length c) hB0.b0 rfl
  have hx2 := blk_cell (j := 2) (v := .int .i64 nx) hB0.b0 rfl
  have HB0 := Aside0.mk hb0
  have HX0 := Aside0.mk hB0
  have HW0 := Lib.hid hw0
  rw [hw0] at HM hx0 hx1 hx2
  obtain ⟨R, hR⟩ : ∃ R, stepP v ts nx kind table elem up = R := ⟨_, rfl⟩
  rw [hR]
  clear hb0 hB0 hC hG hwf hw0
  by_cases hn : nxtE v ts nx = 0
  rotate_left
  · have HR := Lib.hid (show R = noTold (nxtE v ts nx) by rw [← hR, nxtE_ne hn])
    obtain ⟨er, her⟩ : ∃ er, nxtE v ts nx = er := ⟨_, rfl⟩
    rw [her] at HR hn
    have hq : (er != 0) = true := by simpa using hn
    have HER := Lib.hid her
    clear hR her
    go_enter Tryd.func52, Tryd.ntmps52
    go_wp2_with fail
    refine HM.out.mono ?_
    rw [← HW0.out]
    rintro e w1 ⟨hb1, ⟨-, rfl⟩ | ⟨h, -⟩⟩
    rotate_left
    · exact absurd (HER.out.symm.trans h) hn
    rw [HER.out]
    have hX1 := HX0.out.step hb1
    have hBa := below_alloc (below_then HB0.out HB0.out.size hb1) (.cells #[.int .i64 0, .slice none 0 0, .int .i64 0] 28)
    have hY := blk_alloc hX1.b1 (.cells #[.int .i64 0, .slice none 0 0, .int .i64 0] 28)
    have HB1 := Aside0.mk hBa
    have f0 := blk_frozen hX1.b1 0
    have f1 := blk_frozen hX1.b1 1
    have f2 := blk_frozen hX1.b1 2
    have c0 := blk_cell (j := 0) (v := .int .i64 0) hX1.b1 rfl
    have c1 := blk_cell (j := 1) (v := .slice none 0 0) hX1.b1 rfl
    have c2 := blk_cell (j := 2) (v := .int .i64 0) hX1.b1 rfl
    have hl : w.heap.size ≤ w.heap.size + 1 := by omega
    have hx3 := lt_of_block hX1.b1
    have hz := blk_alloc (blk_put (blk_put (blk_put hX1.b1 0 (.int .i64 0) rfl) 1 (.slice none 0 0) rfl) 2 (.int .i64 0) rfl) (.cells #[.int .i64 0, .slice none 0 0, .int .i64 0] 28)
    have hbz := below_alloc ((((below_then HB0.out HB0.out.size hb1).setCell (p := ⟨w.heap.size + 1, 0, none⟩) hl (.int .i64 0)).setCell (p := ⟨w.heap.size + 1, 1, none⟩) hl (.slice none 0 0)).setCell (p := ⟨w.heap.size + 1, 2, none⟩) hl (.int .i64 0)) (.cells #[.int .i64 0, .slice none 0 0, .int .i64 0] 28)
    have HBZ := Aside0.mk (And.intro hz hbz)
    clear hb1 hX1 hBa hY hx0 hx1 hx2 hz hbz
    go_wp2
    refine bodyPost_ret (v := .tuple #[.agg #[.int .i64 0, .slice none 0 0, .int .i64 0], .int .i64 er]) (by have r0 := blk_cell (j := 0) (v := .int .i64 0) HBZ.out.1 rfl; have r1 := blk_cell (j := 1) (v := .slice none 0 0) HBZ.out.1 rfl; have r2 := blk_cell (j := 2) (v := .int .i64 0) HBZ.out.1 rfl; simp [results, Tryd.results52, go_sem, r0, r1, r2]) rfl (tellse_no HR.out HBZ.out.2)
  have HN := Lib.hid hn
  obtain ⟨er, her⟩ : ∃ er, nxtE v ts nx = er := ⟨_, rfl⟩
  rcases cls_of ts kind table elem with hneg | ⟨i, k, hil, hi, hcl⟩
  · have HR := Lib.hid (show R = noTold 5 by rw [← hR, stepP_none hn hneg])
    have HNG := Lib.hid hneg
    have HSC := Lib.hid (nxtE_eq hn).1
    clear hR hneg hn her
    go_enter Tryd.func52, Tryd.ntmps52
    go_wp2_with fail
    refine HM.out.mono ?_
    rw [← HW0.out]
    rintro e w1 ⟨hb1, ⟨h, -⟩ | ⟨-, u, rfl, hS⟩⟩
    · exact absurd HN.out h
    obtain ⟨Au, cu, rfl, lcu, hCu⟩ := Kd.S_reads hS
    have hX1 := HX0.out.step hb1
    have hba := below_alloc (Below.refl _ w1) (.cells #[.int .i64 (v + 1), .slice Au ts.length cu, .int .i64 nx] 28)
    have hX2 := hX1.step hba
    have HX2 := Aside0.mk hX2
    have HB2 := Aside0.mk (below_then (below_then HB0.out HB0.out.size hb1) (by have := HB0.out.size; have := hb1.size; omega) hba)
    have hZ := heap_alloc_new w1 (.cells #[.int .i64 (v + 1), .slice Au ts.length cu, .int .i64 nx] 28)
    have HQ := Lib.hid (find_calls w1.heap.size (v + 1) nx kind table elem ts Au cu _ hZ (Kd.C_below hCu hba))
    clear hb1 hS hCu hX1 hba hX2 hZ hx0 hx1 hx2
    go_wp2_with fail
    refine HQ.out.mono ?_
    rintro e w3 ⟨hb3, ⟨-, p, rfl⟩ | ⟨E, pa, st, k, ix, rl, rfl, hel, hst, hin⟩⟩
    rotate_left
    · exact absurd (stIn_pos HSC.out hin).1 (by have := HNG.out; omega)
    have hX3 := HX2.out.step hb3
    have HB3 := Aside0.mk (below_then HB2.out HB2.out.size hb3)
    have f0 := blk_frozen hX3.b1 0
    have f1 := blk_frozen hX3.b1 1
    have f2 := blk_frozen hX3.b1 2
    have c0 := blk_cell (j := 0) (v := .int .i64 0) hX3.b1 rfl
    have c1 := blk_cell (j := 1) (v := .slice none 0 0) hX3.b1 rfl
    have c2 := blk_cell (j := 2) (v := .int .i64 0) hX3.b1 rfl
    have hl : w.heap.size ≤ w.heap.size + 1 := by omega
    clear hb3 hX3
    go_wp2
    refine bodyPost_ret (v := .tuple #[.agg #[.int .i64 0, .slice none 0 0, .int .i64 0], .int .i64 5]) (by simp [results, Tryd.results52, go_sem, c0, c1, c2]) rfl (tellse_no HR.out (((HB3.out.setCell hl _).setCell hl _).setCell hl _))
  have HF := Lib.hid (fun W X g cap hB hS hX => found_calls v ts nx kind table elem up hn i k hil hi hcl w W X g cap hB hS hX)
  have hpos : 0 < ts.length := by omega
  have HRR := Lib.hid hR
  clear hR hn her hi hcl
  go_enter Tryd.func52, Tryd.ntmps52
  go_wp2_with fail
  refine HM.out.mono ?_
  rw [← HW0.out]
  rintro e w1 ⟨hb1, ⟨h, -⟩ | ⟨-, u, rfl, hS⟩⟩
  · exact absurd HN.out h
  have hS' := Kd.S_lower hS HB0.out.size
  obtain ⟨g, cap, rfl, -⟩ := Kd.S_form hS' hpos
  have hX1 := HX0.out.step hb1
  have hba := below_alloc (Below.refl _ w1) (.cells #[.int .i64 (v + 1), .slice (some ⟨g, 0, none⟩) ts.length cap, .int .i64 nx] 28)
  have hB1 := below_then HB0.out HB0.out.size hb1
  have HX2 := Aside0.mk (hX1.step hba)
  have HB2 := Aside0.mk (below_then hB1 hB1.size hba)
  have hZ := heap_alloc_new w1 (.cells #[.int .i64 (v + 1), .slice (some ⟨g, 0, none⟩) ts.length cap, .int .i64 nx] 28)
  obtain ⟨cd, t, hst, hcall⟩ := HF.out _ w1.heap.size g cap HB2.out (Kd.S_below hS' hba) hZ
  have HQ := Lib.hid hcall
  have HST := Lib.hid (HRR.out.symm.trans hst)
  have HZ := Aside0.mk hZ
  have HX1 := Lib.hid (lt_of_block hX1.b1)
  clear hb1 hS hS' hX1 hba hB1 hZ hx0 hx1 hx2 hst hcall HF HRR
  go_wp2_with fail
  refine HQ.out.mono ?_
  rintro e w3 ⟨E, rfl, hb3, hfa⟩
  have HX3 := Aside0.mk (HX2.out.step hb3)
  have HB3 := Aside0.mk (below_then HB2.out HB2.out.size hb3)
  have HZ3 := Aside0.mk (blk_below HZ.out hb3)
  have HFA := Lib.hid hfa
  clear hb3 hfa HQ HZ
  go_wp2_with fail
  refine HFA.out.mono ?_
  rintro e w4 ⟨rfl, hT, hS4⟩
  have hY4 := hT.box HX3.out.b1
  have hZ4 := hT.box HZ3.out
  have hB4 := HB3.out.trans hT.below
  have f0 := blk_frozen hY4 0
  have f1 := blk_frozen hY4 1
  have f2 := blk_frozen hY4 2
  have c0 := blk_cell (j := 0) (v := .int .i64 0) hY4 rfl
  have c1 := blk_cell (j := 1) (v := .slice none 0 0) hY4 rfl
  have c2 := blk_cell (j := 2) (v := .int .i64 0) hY4 rfl
  have y0 := blk_cell (j := 0) (v := .int .i64 (v + 1)) hZ4 rfl
  have y1 := blk_cell (j := 1) (v := .slice (some ⟨g, 0, none⟩) ts.length cap) hZ4 rfl
  have y2 := blk_cell (j := 2) (v := .int .i64 nx) hZ4 rfl
  have hl : w.heap.size ≤ w.heap.size + 1 := by omega
  have HB4 := Aside0.mk hB4
  have HY4 := Aside0.mk hY4
  have HS4 := Lib.hid hS4
  clear hT hY4 hZ4 hB4 hS4 HFA
  by_cases hc0 : cd = 0
  · have HR := Lib.hid (show R = ⟨v + 1, ts.set i t, nx, 0, 0, 0⟩ by rw [HST.out]; unfold stepR; rw [if_neg (fun h => h hc0)])
    have HS5 := Aside0.mk (HS4.out hc0)
    subst hc0
    go_wp2
    refine bodyPost_ret (v := .tuple #[.agg #[.int .i64 (v + 1), .slice (some ⟨g, 0, none⟩) ts.length cap, .int .i64 nx], .int .i64 0]) (by simp [results, Tryd.results52, go_sem, c0, c1, c2]) rfl ?_
    exact tellse_ok HR.out (R_set3 (Kd.S_R HS5.out) HY4.out) (((HB4.out.setCell hl _).setCell hl _).setCell hl _)
  · have HR := Lib.hid (show R = noTold cd by rw [HST.out]; unfold stepR; rw [if_pos hc0])
    have hq : (cd != 0) = true := by simpa using hc0
    clear hc0
    go_wp2
    refine bodyPost_ret (v := .tuple #[.agg #[.int .i64 0, .slice none 0 0, .int .i64 0], .int .i64 cd]) (by simp [results, Tryd.results52, go_sem, c0, c1, c2]) rfl (tellse_no HR.out (((HB4.out.setCell hl _).setCell hl _).setCell hl _))
end Go.Proofs.YtjgomlcdmpcoaaaDoor.H
namespace Go.Proofs.YtjgomlcdmpcoaaaDoor.H
open Go.RowKit Go.Proofs.YtjgomlcdmpcoaaaDoorW.PrintWords Go.Proofs.YtjgomlcdmpcoaaaDoorW.PrintLast Go.Proofs.YtjgomlcdmpcoaaaDoorW.PrintMore
open Go.Proofs.YtjgomlcdmpcoaaaDoor.D Go.Proofs.YtjgomlcdmpcoaaaDoor
set_option linter.unusedVariables false
set_option linter.unusedSimpArgs false
theorem awake19_begin : beginP addIndexP 1 [tT [] 3] 2 sI = ⟨2, [tT [xI 1] 4], 2, 1, 3, 0⟩ := by kernel_rfl
theorem awake19_0 : stepP 2 [tT [xI 1] 4] 2 6 1 3 true = ⟨3, [tT [xI 2] 4], 2, 0, 0, 0⟩ := by kernel_rfl
theorem awake19_1 : stepP 3 [tT [xI 2] 4] 2 6 1 3 true = ⟨4, [tT [xI 3] 4], 2, 0, 0, 0⟩ := by kernel_rfl
theorem awake19_2 : stepP 4 [tT [xI 3] 4] 2 6 1 3 true = ⟨5, [tT [xI 4] 4], 2, 0, 0, 0⟩ := by kernel_rfl
theorem awake19_s1 : stateI 2 [tT [xI 1] 4] 2 6 1 3 = 1 := by kernel_rfl
theorem awake19_s4 : stateI 5 [tT [xI 4] 4] 2 6 1 3 = 4 := by kernel_rfl
theorem awake19_st (n : Nat) (h : n < 3) : stepP (2 + (n : Int)) [tT [xI (1 + (n : Int))] 4] 2 6 1 3 true = ⟨2 + ((n + 1 : Nat) : Int), [tT [xI (1 + ((n + 1 : Nat) : Int))] 4], 2, 0, 0, 0⟩ := by
  match n, h with
  | 0, _ => exact awake19_0
  | 1, _ => exact awake19_1
  | 2, _ => exact awake19_2
set_option maxHeartbeats 1000000 in
theorem num19_calls (n : Int) (w : World) : Calls Tryd.prog 50 #[.int .i64 n] w fun e w' => e = .returned (.int .i64 n) ∧ w = w' := by
  go_enter Tryd.func50, Tryd.ntmps50
  go_wp2
  go_ret
  exact ⟨rfl, rfl⟩
structure AwSt (w W : World) (Y : Nat) (v : Int) (A : Option Addr) (c : Nat) (ts : List S70) (nx : Int) : Prop where
  below : Below w.heap.size w W
  box : W.heap[Y]? = some (.cells #[.int .i64 v, .slice A ts.length c, .int .i64 nx] 28 (0, 0))
  row : k70.R 70 W w.heap.size (fun _ => True) (.slice A ts.length c) ts
theorem AwSt.step {w W W1 : World} {Y : Nat} {v nx : Int} {A : Option Addr} {c : Nat} {ts : List S70} (h : AwSt w W Y v A c ts nx) (hb : Below W.heap.size W W1) : AwSt w W1 Y v A c ts nx := ⟨below_then h.below h.below.size hb, blk_below h.box hb, Kd.R_below h.row hb⟩
theorem AwSt.new {w W : World} {v nx : Int} {A : Option Addr} {c : Nat} {ts : List S70} (hb : Below w.heap.size w W) (hr : k70.R 70 W w.heap.size (fun _ => True) (.slice A ts.length c) ts) : AwSt w (W.alloc (.cells #[.int .i64 v, .slice A ts.length c, .int .i64 nx] 28)) W.heap.size v A c ts nx :=
  ⟨below_alloc hb _, heap_alloc_new W _, Kd.R_below hr (below_alloc (Below.refl _ _) _)⟩
theorem AwSt.put {w W W1 : World} {Y : Nat} {v nx v' nx' : Int} {A A' : Option Addr} {c c' : Nat} {ts ts' : List S70} (h : AwSt w W Y v A c ts nx) (hY : w.heap.size ≤ Y) (hb : Below W.heap.size W W1) (hr : k70.R 70 W1 W.heap.size (fun _ => True) (.slice A' ts'.length c') ts') :
    AwSt w (((W1.setCell ⟨Y, 0, none⟩ (.int .i64 v')).setCell ⟨Y, 1, none⟩ (.slice A' ts'.length c')).setCell ⟨Y, 2, none⟩ (.int .i64 nx')) Y v' A' c' ts' nx' := by
  have h1 := h.step hb
  refine ⟨((h1.below.setCell (p := ⟨Y, 0, none⟩) hY _).setCell (p := ⟨Y, 1, none⟩) hY _).setCell (p := ⟨Y, 2, none⟩) hY _, ?_, R_set3 (Kd.R_lower hr h.below.size) h1.box⟩
  exact blk_put (blk_put (blk_put h1.box 0 (.int .i64 v') rfl) 1 (.slice A' ts'.length c') rfl) 2 (.int .i64 nx') rfl
set_option maxRecDepth 100000 in
set_option maxHeartbeats 8000000 in
theorem awake19_calls (w : World) (hG : GL w) : Calls Tryd.prog 47 #[] w fun e w' => e = .returned (.bool true) ∧ Below w.heap.size w w' := by
  obtain ⟨w0, hw0⟩ : ∃ w0, w0 = (w.alloc (.cells #[.string ⟨#[97]⟩, .string ⟨#[98]⟩] 9)).alloc (.cells #[.int .i64 2, .int .i64 5] 3) := ⟨_, rfl⟩
  have hb0 : Below w.heap.size w w0 := by rw [hw0]; exact below_alloc (below_alloc (Below.refl _ _) _) _
  have hk := sT_K w
  rw [← hw0] at hk
  have H1 := Lib.hid (createG_calls 0 [] 0 sT (fun t ht => by cases ht) (by decide) none 0 w0 (hG.of_below hb0) (Nat.le_refl _) (nil_C _ _) _ hk sT_ok)
  rw [awake_create, hw0] at H1
  rw [hw0] at hb0
  have HB0 := Aside0.mk hb0
  have HG := Aside0.mk hG
  clear hk hb0 hG hw0
  go_enter Tryd.func47, Tryd.ntmps47
  go_wp2_with fail
  refine H1.out.mono ?_
  rintro e w1 ⟨A1, c1, he, r1, hb1⟩
  have he' : e = .returned (.tuple #[.agg #[.int .i64 1, .slice A1 1 c1, .int .i64 2], .int .i64 0]) := he
  subst he'
  have r1' : k70.R 70 w1 _ (fun _ => True) (.slice A1 1 c1) [tT [] 3] := r1
  obtain ⟨-, l1', g1'⟩ := Kd.R_reads' r1'
  have HB1 := Aside0.mk (below_then HB0.out (by simp; omega) hb1)
  have hb2 := below_alloc (Below.refl _ w1) (.cells #[.int .i64 1, .slice A1 1 c1, .int .i64 2] 28)
  have hb3 := below_alloc hb2 (.cells #[.string ⟨#[98]⟩] 9)
  have HB3 := Aside0.mk (below_then HB1.out HB1.out.size hb3)
  have H2 := Lib.hid (beginG_of 99 addIndexP 1 [tT [] 3] 2 sI (.inr ⟨by rfl, addIndexG_upd, by decide, enters99, eql_f99⟩) (awake_wf _ _ (fun x hx => by cases hx)) (by decide) A1 c1 _ (HG.out.of_below HB3.out) l1' (Kd.C_below g1' hb3) _ (sI_K (w1.alloc (.cells #[.int .i64 1, .slice A1 1 c1, .int .i64 2] 28))) sI_ok)
  rw [awake19_begin, show (w1.alloc (.cells #[.int .i64 1, .slice A1 1 c1, .int .i64 2] 28)).heap.size = w1.heap.size + 1 by simp] at H2
  clear he r1 r1' hb1 g1' hb2 hb3 H1 HB0
  go_wp2_with fail
  refine H2.out.mono ?_
  rintro e w2 ⟨A2, c2, he, r2, hb2⟩
  have he' : e = .returned (.tuple #[.agg #[.int .i64 2, .slice A2 1 c2, .int .i64 2], .int .i64 1, .int .i64 3, .int .i64 0]) := he
  subst he'
  have r2' : k70.R 70 w2 w.heap.size (fun _ => True) (.slice A2 [tT [xI 1] 4].length c2) [tT [xI 1] 4] := Kd.R_lower r2 HB3.out.size
  have hA := AwSt.new (v := 2) (nx := 2) (below_then HB3.out HB3.out.size hb2) r2'
  have hYw : w.heap.size ≤ w2.heap.size := (below_then HB3.out HB3.out.size hb2).size
  obtain ⟨-, l2', g2'⟩ := Kd.R_reads' hA.row
  have H3 := Lib.hid (cstate_calls 2 [tT [xI 1] 4] 2 6 1 3 (awake_wf _ _ (xI_wf _)) A2 c2 _ (HG.out.of_below hA.below) l2' g2')
  rw [awake19_s1] at H3
  have HA := Aside0.mk hA
  clear he r2 r2' hb2 hA g2' H2 HB3
  go_wp2_with fail
  refine H3.out.mono ?_
  rintro e w3 ⟨he, hb3⟩
  have he' : e = .returned (.tuple #[.int .i64 1, .bool true]) := he
  subst he'
  have HA3 := Aside0.mk (HA.out.step hb3)
  have HYW := Lib.hid hYw
  clear he hb3 HA H3 HB1
  go_wp2_with fail
  go_loopg [9, 40, 45, 46] 3 (fun gg u9 _ _ _ wr => ∃ n : Nat, ∃ (A : Option Addr) (c : Nat), n ≤ 3 ∧ 3 - n ≤ gg ∧ u9 = .int .i64 n ∧ Aside0 (AwSt w wr w2.heap.size (2 + (n : Int)) A c [tT [xI (1 + (n : Int))] 4] 2))
  case atStart => exact ⟨0, A2, c2, by omega, by omega, rfl, HA3⟩
  case round =>
    clear HA3
    obtain ⟨n, A, c, hn, hg, rfl, HS⟩ := hrel
    have y0 := blk_cell (j := 0) (v := .int .i64 (2 + (n : Int))) HS.out.box rfl
    have y1 := blk_cell (j := 1) (v := .slice A 1 c) HS.out.box rfl
    have y2 := blk_cell (j := 2) (v := .int .i64 2) HS.out.box rfl
    obtain ⟨-, lr, gr⟩ := Kd.R_reads' HS.out.row
    by_cases hlt : n < 3
    · have hltz : (n : Int) < 3 := by omega
      have H4 := Lib.hid (stepG_calls (2 + (n : Int)) [tT [xI (1 + (n : Int))] 4] 2 6 1 3 true (awake_wf _ _ (xI_wf _)) (by omega) A c wr (HG.out.of_below HS.out.below) lr gr)
      rw [awake19_st n hlt] at H4
      clear gr
      go_wp2_with fail
      refine H4.out.mono ?_
      rintro e w4 ⟨A4, c4, he, r4, hb4⟩
      have he' : e = .returned (.tuple #[.agg #[.int .i64 (2 + ((n + 1 : Nat) : Int)), .slice A4 1 c4, .int .i64 2], .int .i64 0]) := he
      subst he'
      have hx := (HS.out.step hb4).box
      have f0 := blk_frozen hx 0
      have f1 := blk_frozen hx 1
      have f2 := blk_frozen hx 2
      have z0 := blk_cell (j := 0) (v := .int .i64 (2 + (n : Int))) hx rfl
      have z1 := blk_cell (j := 1) (v := .slice A 1 c) hx rfl
      have z2 := blk_cell (j := 2) (v := .int .i64 2) hx rfl
      have HF := Aside0.mk (HS.out.put (v' := 2 + ((n + 1 : Nat) : Int)) (nx' := 2) HYW.out hb4 r4)
      clear he r4 hb4 hx y0 y1 y2 H4
      go_wp2
      go_roundg (3 - (n + 1))
      case measure => omega
      case rel => exact ⟨n + 1, A4, c4, by omega, by omega, by go_num, HF⟩
    · have hltz : ¬ (n : Int) < 3 := by omega
      obtain rfl : n = 3 := by omega
      have H5 := Lib.hid (cstate_calls 5 [tT [xI 4] 4] 2 6 1 3 (awake_wf _ _ (xI_wf _)) A c wr (HG.out.of_below HS.out.below) lr gr)
      rw [awake19_s4] at H5
      clear gr
      go_wp2_with fail
      refine H5.out.mono ?_
      rintro e w5 ⟨he, hb5⟩
      have he' : e = .returned (.tuple #[.int .i64 4, .bool true]) := he
      subst he'
      have HB5 := Aside0.mk (HS.out.step hb5).below
      have HNUM := Lib.hid (fun W => num19_calls 0 W)
      clear he hb5 H5 y0 y1 y2
      go_wp2_with (go_at_call 50; refine (HNUM.out _).mono ?_; rintro e w6 ⟨rfl, rfl⟩)
      go_ret
      exact ⟨rfl, HB5.out⟩
end Go.Proofs.YtjgomlcdmpcoaaaDoor.H
