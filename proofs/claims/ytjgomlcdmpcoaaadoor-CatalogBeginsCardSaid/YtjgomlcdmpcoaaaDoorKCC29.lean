/- Own texts of this session, packed by its program wip/pp/pack.py: lemmas and walks of functions. -/
import Derived.Test.YtjgomlcdmpcoaaaDoorKCC18
import Derived.Test.YtjgomlcdmpcoaaaDoorKCC21
import Derived.Test.YtjgomlcdmpcoaaaDoorKCC28
namespace Go.Proofs.YtjgomlcdmpcoaaaDoor.H
open Go.RowKit Go.Proofs.YtjgomlcdmpcoaaaDoorW.PrintWords Go.Proofs.YtjgomlcdmpcoaaaDoorW.PrintLast Go.Proofs.YtjgomlcdmpcoaaaDoorW.PrintMore
open Go.Proofs.YtjgomlcdmpcoaaaDoor.D Go.Proofs.YtjgomlcdmpcoaaaDoor
set_option linter.unusedVariables false
set_option linter.unusedSimpArgs false
def byI (up : Bool) : Int := if up = true then 1 else -1
def turnXE (st : Int) (up : Bool) : Int := if (up = true ∧ st = 4) ∨ (up = false ∧ st = 0) then 12 else 0
def turnCE (t : S70) (k : Nat) (up : Bool) : Int :=
  if (up = true ∧ (rd_T75 t.f2 k).f3 = 4) ∨ (up = false ∧ (rd_T75 t.f2 k).f3 = 0) then 12
  else if k = 0 then 8
  else if up = false ∧ (rd_T75 t.f2 k).f3 = 1 ∧ usedB (rd_T75 t.f2 k).f0 t.f3 = true then 18 else 0
def turnNE (t : S70) (k : Nat) (up : Bool) : Int :=
  if (up = true ∧ (rd_T75 t.f2 k).f4 = 4) ∨ (up = false ∧ (rd_T75 t.f2 k).f4 = 0) then 12
  else if k = 0 then 8 else 0
def TurnPost (w0 W : World) (g n cap : Nat) (ts : List S70) (i : Nat) (c : Int) (t : S70) (e : Ending) (W' : World) : Prop :=
  e = .returned (.int .i64 c) ∧ Tch w0.heap.size W W' ∧ (c = 0 → Kd.S k70 70 W' w0.heap.size (fun _ => True) (.slice (some ⟨g, 0, none⟩) n cap) (ts.set i t))
theorem R_cap {α : Type} {d : Kd α} {e : TypeId} {W : World} {base g m c : Nat} {ok : Nat → Prop} {xs : List α} (h : d.R e W base ok (.slice (some ⟨g, 0, none⟩) m c) xs) : c ≤ maxLen := by
  obtain ⟨h0, inner, hown, hr⟩ := h
  rcases hown.2 with ⟨hq, _⟩ | ⟨g', cap, cur, hv, hb, hh, h1, h2, h3, h4⟩
  · cases hq
  · injection hv with ha hb' hc'
    rw [hc']
    exact h2
set_option maxRecDepth 100000 in
set_option maxHeartbeats 8000000 in
theorem turnX_up (w0 W : World) (g n cap : Nat) (ts : List S70) (i : Nat) (oki : Nat → Prop) (t : S70) (cv iv : Value) (gi m c E k : Nat) (hB : Below w0.heap.size w0 W) (hL : Lent W w0.heap.size g n cap ts i oki t cv iv) (ht : tableB t = true) (hv : iv = .slice (some ⟨gi, 0, none⟩) m c) (hk : k < t.f3.length)
    (hE : ElemOk E ⟨g, i * 5, none⟩ ⟨gi, k * 5 + 4, none⟩ k true false W) :
    Calls Tryd.prog 108 #[.pointer (some ⟨E, 0, none⟩), .bool true] W (TurnPost w0 W g n cap ts i (turnXE (rd_T98 t.f3 (k : Int)).f4 true) (turnI t k ((rd_T98 t.f3 (k : Int)).f4 + byI true))) := by
  obtain ⟨m2, m3, m4, m5⟩ := tableB_lens ht
  have hE' : W.heap[E]? = some (.cells #[.pointer (some ⟨g, i * 5, none⟩), .pointer (some ⟨gi, k * 5 + 4, none⟩), .int .i64 k, .bool true, .bool false] 148 (0, 0)) := hE
  have hHE := Aside0.mk hE'
  subst hv
  obtain rfl : m = t.f3.length := (Kd.R_reads' hL.inds).1
  have h0 := blk_cell (j := 0) (v := .pointer (some ⟨g, i * 5, none⟩)) hE' rfl
  have h1 := blk_cell (j := 1) (v := .pointer (some ⟨gi, k * 5 + 4, none⟩)) hE' rfl
  have h2 := blk_cell (j := 2) (v := .int .i64 k) hE' rfl
  have h3 := blk_cell (j := 3) (v := .bool true) hE' rfl
  have h4 := blk_cell (j := 4) (v := .bool false) hE' rfl
  have hU := (⟨hL, Tch.refl _ _, hB.size⟩ : UpdSt w0 W W g n cap ts i oki t _ _)
  have hst : (rd_T98 t.f3 (k : Int)) = t.f3[k] := rd98 _ _ hk
  rw [hst]
  obtain ⟨cz, hcl, hM, hcc, hfr⟩ := Kd.R_elem hL.inds z98 (k : Int) (by omega) (by omega)
  rw [show t.f3.getD (k : Int).toNat z98 = t.f3[k] by simp [List.getD, hk]] at hM
  obtain ⟨v2, rfl, -⟩ := k98_openM hM
  have e4 : W.cell? ⟨gi, k * 5 + 4, none⟩ = some (.int .i64 t.f3[k].f4) := hcc 4 _ rfl
  have f4 : W.frozen? ⟨gi, k * 5 + 4, none⟩ = false := hfr 4
  obtain ⟨st, hs⟩ : ∃ st, t.f3[k].f4 = st := ⟨_, rfl⟩
  have hst4 : 0 ≤ st ∧ st ≤ 4 := by
    have hb := tindsB_all _ _ _ (by unfold tableB at ht; simp only [Bool.and_eq_true] at ht; exact ht.2.2.2.2.2.2.2.1) t.f3[k] (List.getElem_mem hk)
    unfold indexB stateB at hb
    simp only [Bool.and_eq_true, decide_eq_true_eq] at hb
    omega
  have HU := Aside0.mk hU
  have HB := Aside0.mk hB
  have hlc := (Kd.R_reads' hL.inds).2.1
  have hcm : c ≤ maxLen := R_cap hL.inds
  have hne : g ≠ gi := fun e => hL.oki_ne gi (hL.inds.1 gi (by simp [Value.ownBlock])) e.symm
  obtain ⟨gcs, hgb⟩ := hL.blk
  obtain ⟨ics, hib⟩ := Kd.R_typed hL.inds gi (by simp [Value.ownBlock])
  have hEg : E ≠ g := (blk_ne hE' hgb (by decide))
  have hEi : E ≠ gi := (blk_ne hE' hib (by decide))
  have a3 := hL.cell 3 rfl
  have fa := hL.frozen (i * 5 + 3)
  have hEl := lt_of_block hE'
  have hgl := lt_of_block hgb
  have hHG := Aside0.mk hgb
  rw [hs] at e4 ⊢
  have HS := Lib.hid hs
  have hne' : gi ≠ g := Ne.symm hne
  clear hE hE' hL ht hU hB hcl hM hcc hfr hst hs hgb hib
  by_cases hr : st = 4
  · subst hr
    rw [show turnXE 4 true = 12 from rfl]
    generalize turnI t k (4 + byI true) = T
    go_enter Tryd.func108, Tryd.ntmps108
    go_wp2
    all_goals
      go_ret
      exact ⟨rfl, Tch.refl _ _, fun h => absurd h (by decide)⟩
  have hq : (st == 4) = false := by simpa using hr
  have hc : turnXE st true = 0 := by unfold turnXE; rw [if_neg]; rintro (⟨-, h⟩ | ⟨h, -⟩); exact hr h; cases h
  have hTI : turnI t k (st + byI true) = ⟨t.f0, t.f1, t.f2, t.f3.set k ⟨t.f3[k].f0, t.f3[k].f1, t.f3[k].f2, t.f3[k].f3, st + 1⟩, t.f4⟩ := by unfold turnI byI; rw [if_pos rfl, if_neg (by omega), rd98 _ _ hk]
  have HF := Aside0.mk (HU.out.putI k hk (st + 1) hTI.symm)
  rw [hc]
  clear hc hTI hr
  go_enter Tryd.func108, Tryd.ntmps108
  go_wp2
  go_ret
  exact ⟨rfl, HF.out.tch, fun _ => HF.out.lent.back⟩
set_option maxRecDepth 100000 in
set_option maxHeartbeats 8000000 in
theorem turnX_dn (w0 W : World) (g n cap : Nat) (ts : List S70) (i : Nat) (oki : Nat → Prop) (t : S70) (cv iv : Value) (gi m c E k : Nat) (hB : Below w0.heap.size w0 W) (hL : Lent W w0.heap.size g n cap ts i oki t cv iv) (ht : tableB t = true) (hv : iv = .slice (some ⟨gi, 0, none⟩) m c) (hk : k < t.f3.length)
    (hE : ElemOk E ⟨g, i * 5, none⟩ ⟨gi, k * 5 + 4, none⟩ k true false W) :
    Calls Tryd.prog 108 #[.pointer (some ⟨E, 0, none⟩), .bool false] W (TurnPost w0 W g n cap ts i (turnXE (rd_T98 t.f3 (k : Int)).f4 false) (turnI t k ((rd_T98 t.f3 (k : Int)).f4 + byI false))) := by
  obtain ⟨m2, m3, m4, m5⟩ := tableB_lens ht
  have hE' : W.heap[E]? = some (.cells #[.pointer (some ⟨g, i * 5, none⟩), .pointer (some ⟨gi, k * 5 + 4, none⟩), .int .i64 k, .bool true, .bool false] 148 (0, 0)) := hE
  have hHE := Aside0.mk hE'
  subst hv
  obtain rfl : m = t.f3.length := (Kd.R_reads' hL.inds).1
  have h0 := blk_cell (j := 0) (v := .pointer (some ⟨g, i * 5, none⟩)) hE' rfl
  have h1 := blk_cell (j := 1) (v := .pointer (some ⟨gi, k * 5 + 4, none⟩)) hE' rfl
  have h2 := blk_cell (j := 2) (v := .int .i64 k) hE' rfl
  have h3 := blk_cell (j := 3) (v := .bool true) hE' rfl
  have h4 := blk_cell (j := 4) (v := .bool false) hE' rfl
  have hU := (⟨hL, Tch.refl _ _, hB.size⟩ : UpdSt w0 W W g n cap ts i oki t _ _)
  have hst : (rd_T98 t.f3 (k : Int)) = t.f3[k] := rd98 _ _ hk
  rw [hst]
  obtain ⟨cz, hcl, hM, hcc, hfr⟩ := Kd.R_elem hL.inds z98 (k : Int) (by omega) (by omega)
  rw [show t.f3.getD (k : Int).toNat z98 = t.f3[k] by simp [List.getD, hk]] at hM
  obtain ⟨v2, rfl, -⟩ := k98_openM hM
  have e4 : W.cell? ⟨gi, k * 5 + 4, none⟩ = some (.int .i64 t.f3[k].f4) := hcc 4 _ rfl
  have f4 : W.frozen? ⟨gi, k * 5 + 4, none⟩ = false := hfr 4
  obtain ⟨st, hs⟩ : ∃ st, t.f3[k].f4 = st := ⟨_, rfl⟩
  have hst4 : 0 ≤ st ∧ st ≤ 4 := by
    have hb := tindsB_all _ _ _ (by unfold tableB at ht; simp only [Bool.and_eq_true] at ht; exact ht.2.2.2.2.2.2.2.1) t.f3[k] (List.getElem_mem hk)
    unfold indexB stateB at hb
    simp only [Bool.and_eq_true, decide_eq_true_eq] at hb
    omega
  have HU := Aside0.mk hU
  have HB := Aside0.mk hB
  have hlc := (Kd.R_reads' hL.inds).2.1
  have hcm : c ≤ maxLen := R_cap hL.inds
  have hne : g ≠ gi := fun e => hL.oki_ne gi (hL.inds.1 gi (by simp [Value.ownBlock])) e.symm
  obtain ⟨gcs, hgb⟩ := hL.blk
  obtain ⟨ics, hib⟩ := Kd.R_typed hL.inds gi (by simp [Value.ownBlock])
  have hEg : E ≠ g := (blk_ne hE' hgb (by decide))
  have hEi : E ≠ gi := (blk_ne hE' hib (by decide))
  have a3 := hL.cell 3 rfl
  have fa := hL.frozen (i * 5 + 3)
  have hEl := lt_of_block hE'
  have hgl := lt_of_block hgb
  have hHG := Aside0.mk hgb
  rw [hs] at e4 ⊢
  have HS := Lib.hid hs
  have hne' : gi ≠ g := Ne.symm hne
  clear hE hE' hL ht hU hB hcl hM hcc hfr hst hs hgb hib
  by_cases hr : st = 0
  · subst hr
    rw [show turnXE 0 false = 12 from rfl]
    generalize turnI t k (0 + byI false) = T
    go_enter Tryd.func108, Tryd.ntmps108
    go_wp2
    all_goals
      go_ret
      exact ⟨rfl, Tch.refl _ _, fun h => absurd h (by decide)⟩
  have hq : (st == 0) = false := by simpa using hr
  have hc : turnXE st false = 0 := by unfold turnXE; rw [if_neg]; rintro (⟨h, -⟩ | ⟨-, h⟩); cases h; exact hr h
  rw [hc]
  clear hc
  by_cases h1s : st = 1
  · subst h1s
    have hTI := Lib.hid (show turnI t k (1 + byI false) = ⟨t.f0, t.f1, t.f2, t.f3.eraseIdx k, t.f4⟩ by unfold turnI byI; rw [if_pos (by decide)])
    have hwk : IntKind.i64.wrap ((k : Int) + 1) = (k : Int) + 1 := IntWalk.i64_in _ (by omega)
    have HDL := Lib.hid (del150 t.f3 gi c k W.drew w0.heap.size oki (Kd.R_drew HU.out.lent.inds) hk (by omega))
    have HARM := Lib.hid (fun (w3 : World) (hg3 : W.drew.grownBy w3 (some gi)) => (show w3.cell? ⟨E, 0, none⟩ = some (.pointer (some ⟨g, i * 5, none⟩)) ∧ w3.cell? ⟨E, 2, none⟩ = some (.int .i64 k) ∧ w3.frozen? ⟨g, i * 5 + 3, none⟩ = false ∧ g < w3.heap.size ∧ w3.cell? ⟨g, i * 5 + 3, none⟩ = some (.slice (some ⟨gi, 0, none⟩) t.f3.length c) by
      have hE3 := blk_grown (blk_below hHE.out (below_drew (Below.refl _ _))) hg3 (fun h => hEi (by injection h))
      have hG3 := blk_grown (blk_below hHG.out (below_drew (Below.refl _ _))) hg3 (fun h => hne (by injection h))
      exact ⟨blk_cell hE3 rfl, blk_cell hE3 rfl, blk_frozen hG3 _, lt_of_block hG3, hg3.cell (pw_cell_below (below_drew (Below.refl _ W)) a3) (fun h => hne (by injection h))⟩))
    have hwk : IntKind.i64.wrap ((k : Int) + 1) = (k : Int) + 1 := IntWalk.i64_in _ (by omega)
    clear hr hq
    go_enter Tryd.func108, Tryd.ntmps108
    go_wp2_with fail
    clear h1 h3 h4 e4 f4 hst4 hlc hcm m2 m3 m4 m5
    go_region_law ((go_simp; go_at_call 150; refine HDL.out.mono ?_; rintro e w3 ⟨rfl, hr3, hg3⟩; obtain ⟨z0, z2, zf, zl, y3⟩ := HARM.out w3 hg3))
    all_goals
      have HF := Aside0.mk ((HU.out.step (below_drew (Below.refl _ _))).setI hg3 hr3 hTI.out.symm)
      clear hr3 hg3 z0 z2 zf y3 a3 fa HDL HARM
      go_wp2
      go_ret
      exact ⟨rfl, HF.out.tch, fun _ => HF.out.lent.back⟩
  have hq1 : (st == 1) = false := by simpa using h1s
  have hTI : turnI t k (st + byI false) = ⟨t.f0, t.f1, t.f2, t.f3.set k ⟨t.f3[k].f0, t.f3[k].f1, t.f3[k].f2, t.f3[k].f3, st - 1⟩, t.f4⟩ := by unfold turnI byI; rw [if_neg (show ¬ (false = true) by simp), if_neg (by omega), rd98 _ _ hk, Int.sub_eq_add_neg]
  have HF := Aside0.mk (HU.out.putI k hk (st - 1) hTI.symm)
  clear hTI hr h1s
  go_enter Tryd.func108, Tryd.ntmps108
  go_wp2
  go_ret
  exact ⟨rfl, HF.out.tch, fun _ => HF.out.lent.back⟩
end Go.Proofs.YtjgomlcdmpcoaaaDoor.H
namespace Go.Proofs.YtjgomlcdmpcoaaaDoor.H
open Go.RowKit Go.Proofs.YtjgomlcdmpcoaaaDoorW.PrintWords Go.Proofs.YtjgomlcdmpcoaaaDoorW.PrintLast Go.Proofs.YtjgomlcdmpcoaaaDoorW.PrintMore
open Go.Proofs.YtjgomlcdmpcoaaaDoor.D Go.Proofs.YtjgomlcdmpcoaaaDoor
set_option linter.unusedVariables false
set_option linter.unusedSimpArgs false
set_option maxRecDepth 100000 in
set_option maxHeartbeats 8000000 in
theorem turnN_up (w0 W : World) (g n cap : Nat) (ts : List S70) (i : Nat) (oki : Nat → Prop) (t : S70) (cv iv : Value) (gi m c E k : Nat) (hB : Below w0.heap.size w0 W) (hL : Lent W w0.heap.size g n cap ts i oki t cv iv) (ht : tableB t = true) (hv : cv = .slice (some ⟨gi, 0, none⟩) m c) (hk : k < t.f2.length)
    (hE : ElemOk E ⟨g, i * 5, none⟩ ⟨gi, k * 9 + 4, none⟩ k false true W) :
    Calls Tryd.prog 108 #[.pointer (some ⟨E, 0, none⟩), .bool true] W (TurnPost w0 W g n cap ts i (turnNE t k true) (turnN t k ((rd_T75 t.f2 (k : Int)).f4 + byI true))) := by
  obtain ⟨m2, m3, m4, m5⟩ := tableB_lens ht
  have hE' : W.heap[E]? = some (.cells #[.pointer (some ⟨g, i * 5, none⟩), .pointer (some ⟨gi, k * 9 + 4, none⟩), .int .i64 k, .bool false, .bool true] 148 (0, 0)) := hE
  have hHE := Aside0.mk hE'
  subst hv
  obtain rfl : m = t.f2.length := (Kd.R_reads' hL.cols).1
  have h0 := blk_cell (j := 0) (v := .pointer (some ⟨g, i * 5, none⟩)) hE' rfl
  have h1 := blk_cell (j := 1) (v := .pointer (some ⟨gi, k * 9 + 4, none⟩)) hE' rfl
  have h2 := blk_cell (j := 2) (v := .int .i64 k) hE' rfl
  have h3 := blk_cell (j := 3) (v := .bool false) hE' rfl
  have h4 := blk_cell (j := 4) (v := .bool true) hE' rfl
  have hU := (⟨hL, Tch.refl _ _, hB.size⟩ : UpdSt w0 W W g n cap ts i oki t _ _)
  have hst : (rd_T75 t.f2 (k : Int)) = t.f2[k] := rd75 _ _ hk
  obtain ⟨cz, hcl, hM, hcc, hfr⟩ := Kd.R_elem hL.cols z75 (k : Int) (by omega) (by omega)
  rw [show t.f2.getD (k : Int).toNat z75 = t.f2[k] by simp [List.getD, hk]] at hM
  obtain rfl := k75_openM hM
  have e4 : W.cell? ⟨gi, k * 9 + 4, none⟩ = some (.int .i64 t.f2[k].f4) := hcc 4 _ rfl
  have f4 : W.frozen? ⟨gi, k * 9 + 4, none⟩ = false := hfr 4
  have e0 : W.cell? ⟨gi, k * 9, none⟩ = some (.int .i64 t.f2[k].f0) := hcc 0 _ rfl
  obtain ⟨st, hs⟩ : ∃ st, t.f2[k].f4 = st := ⟨_, rfl⟩
  obtain ⟨id, hid⟩ : ∃ id, t.f2[k].f0 = id := ⟨_, rfl⟩
  have hst4 : 0 ≤ st ∧ st ≤ 4 := by
    have hb := tcolsB_all _ _ _ (by unfold tableB at ht; simp only [Bool.and_eq_true] at ht; exact ht.2.2.2.2.2.2.1) t.f2[k] (List.getElem_mem hk)
    unfold columnB stateB at hb
    simp only [Bool.and_eq_true, decide_eq_true_eq] at hb
    omega
  have HU := Aside0.mk hU
  have HB := Aside0.mk hB
  have hlc := (Kd.R_reads' hL.cols).2.1
  have hne : g ≠ gi := fun e => hL.oki_ne gi (hL.cols.1 gi (by simp [Value.ownBlock])) e.symm
  obtain ⟨gcs, hgb⟩ := hL.blk
  obtain ⟨ics, hib⟩ := Kd.R_typed hL.cols gi (by simp [Value.ownBlock])
  have hEg : E ≠ g := (blk_ne hE' hgb (by decide))
  have hEi : E ≠ gi := (blk_ne hE' hib (by decide))
  have a2 := hL.cell 2 rfl
  have fa := hL.frozen (i * 5 + 2)
  have hEl := lt_of_block hE'
  have hgl := lt_of_block hgb
  have hHG := Aside0.mk hgb
  have hkl : (k : Int) < (t.f2.length : Int) := by omega
  have hk0 : (0 : Int) ≤ (k : Int) := by omega
  have HI := Lib.hid (show turnNE t k true = _ by unfold turnNE; rw [hst, hs])
  rw [hst, hs]
  rw [hs] at e4
  rw [hid] at e0
  have HS := Lib.hid hs
  have HID := Lib.hid hid
  have hne' : gi ≠ g := Ne.symm hne
  obtain ⟨C, hC⟩ : ∃ C, turnNE t k true = C := ⟨_, rfl⟩
  rw [hC] at HI ⊢
  clear hE hE' hL ht hU hB hcl hM hcc hfr hst hs hgb hib hid hC
  by_cases hr : st = 4
  · obtain rfl : C = 12 := by rw [HI.out, if_pos (.inl ⟨rfl, hr⟩)]
    subst hr
    go_enter Tryd.func108, Tryd.ntmps108
    go_wp2_with fail
    go_region
    all_goals
      go_wp2
      go_ret
      exact ⟨rfl, (HU.out.step (below_drew (Below.refl _ _))).tch, fun h => absurd h (by decide)⟩
  have hq : (st == 4) = false := by simpa using hr
  have HI2 := Lib.hid (HI.out.trans (if_neg (by rintro (⟨-, h⟩ | ⟨h, -⟩); exact hr h; cases h)))
  clear HI
  by_cases hkz : k = 0
  · obtain rfl : C = 8 := by rw [HI2.out, if_pos hkz]
    subst hkz
    clear HI2
    go_enter Tryd.func108, Tryd.ntmps108
    go_wp2_with fail
    go_region
    all_goals
      go_wp2
      all_goals
        go_ret
        exact ⟨rfl, (HU.out.step (below_drew (Below.refl _ _))).tch, fun h => absurd h (by decide)⟩
  have hkq : ((k : Int) == 0) = false := by rw [beq_eq_false_iff_ne]; omega
  have HI3 := Lib.hid (HI2.out.trans (if_neg hkz))
  clear HI2 hkz
  obtain rfl : C = 0 := HI3.out
  clear HI3 hr
  have hTI : turnN t k (st + byI true) = ⟨t.f0, t.f1, t.f2.set k ⟨t.f2[k].f0, t.f2[k].f1, t.f2[k].f2, t.f2[k].f3, st + 1, t.f2[k].f5⟩, t.f3, t.f4⟩ := by unfold turnN byI; rw [if_pos rfl, rd75 _ _ hk]
  have HTI := Lib.hid hTI
  clear hTI
  go_enter Tryd.func108, Tryd.ntmps108
  go_wp2_with fail
  go_region
  all_goals
    have HUd := Aside0.mk (HU.out.step (below_drew (Below.refl _ _)))
    have HF := Aside0.mk (HUd.out.putN k hk (st + 1) HTI.out.symm)
    go_wp2
    go_ret
    exact ⟨rfl, HF.out.tch, fun _ => HF.out.lent.back⟩
set_option maxRecDepth 100000 in
set_option maxHeartbeats 8000000 in
theorem turnN_dn (w0 W : World) (g n cap : Nat) (ts : List S70) (i : Nat) (oki : Nat → Prop) (t : S70) (cv iv : Value) (gi m c E k : Nat) (hB : Below w0.heap.size w0 W) (hL : Lent W w0.heap.size g n cap ts i oki t cv iv) (ht : tableB t = true) (hv : cv = .slice (some ⟨gi, 0, none⟩) m c) (hk : k < t.f2.length)
    (hE : ElemOk E ⟨g, i * 5, none⟩ ⟨gi, k * 9 + 4, none⟩ k false true W) :
    Calls Tryd.prog 108 #[.pointer (some ⟨E, 0, none⟩), .bool false] W (TurnPost w0 W g n cap ts i (turnNE t k false) (turnN t k ((rd_T75 t.f2 (k : Int)).f4 + byI false))) := by
  obtain ⟨m2, m3, m4, m5⟩ := tableB_lens ht
  have hE' : W.heap[E]? = some (.cells #[.pointer (some ⟨g, i * 5, none⟩), .pointer (some ⟨gi, k * 9 + 4, none⟩), .int .i64 k, .bool false, .bool true] 148 (0, 0)) := hE
  have hHE := Aside0.mk hE'
  subst hv
  obtain rfl : m = t.f2.length := (Kd.R_reads' hL.cols).1
  have h0 := blk_cell (j := 0) (v := .pointer (some ⟨g, i * 5, none⟩)) hE' rfl
  have h1 := blk_cell (j := 1) (v := .pointer (some ⟨gi, k * 9 + 4, none⟩)) hE' rfl
  have h2 := blk_cell (j := 2) (v := .int .i64 k) hE' rfl
  have h3 := blk_cell (j := 3) (v := .bool false) hE' rfl
  have h4 := blk_cell (j := 4) (v := .bool true) hE' rfl
  have hU := (⟨hL, Tch.refl _ _, hB.size⟩ : UpdSt w0 W W g n cap ts i oki t _ _)
  have hst : (rd_T75 t.f2 (k : Int)) = t.f2[k] := rd75 _ _ hk
  obtain ⟨cz, hcl, hM, hcc, hfr⟩ := Kd.R_elem hL.cols z75 (k : Int) (by omega) (by omega)
  rw [show t.f2.getD (k : Int).toNat z75 = t.f2[k] by simp [List.getD, hk]] at hM
  obtain rfl := k75_openM hM
  have e4 : W.cell? ⟨gi, k * 9 + 4, none⟩ = some (.int .i64 t.f2[k].f4) := hcc 4 _ rfl
  have f4 : W.frozen? ⟨gi, k * 9 + 4, none⟩ = false := hfr 4
  have e0 : W.cell? ⟨gi, k * 9, none⟩ = some (.int .i64 t.f2[k].f0) := hcc 0 _ rfl
  obtain ⟨st, hs⟩ : ∃ st, t.f2[k].f4 = st := ⟨_, rfl⟩
  obtain ⟨id, hid⟩ : ∃ id, t.f2[k].f0 = id := ⟨_, rfl⟩
  have hst4 : 0 ≤ st ∧ st ≤ 4 := by
    have hb := tcolsB_all _ _ _ (by unfold tableB at ht; simp only [Bool.and_eq_true] at ht; exact ht.2.2.2.2.2.2.1) t.f2[k] (List.getElem_mem hk)
    unfold columnB stateB at hb
    simp only [Bool.and_eq_true, decide_eq_true_eq] at hb
    omega
  have HU := Aside0.mk hU
  have HB := Aside0.mk hB
  have hlc := (Kd.R_reads' hL.cols).2.1
  have hne : g ≠ gi := fun e => hL.oki_ne gi (hL.cols.1 gi (by simp [Value.ownBlock])) e.symm
  obtain ⟨gcs, hgb⟩ := hL.blk
  obtain ⟨ics, hib⟩ := Kd.R_typed hL.cols gi (by simp [Value.ownBlock])
  have hEg : E ≠ g := (blk_ne hE' hgb (by decide))
  have hEi : E ≠ gi := (blk_ne hE' hib (by decide))
  have a2 := hL.cell 2 rfl
  have fa := hL.frozen (i * 5 + 2)
  have hEl := lt_of_block hE'
  have hgl := lt_of_block hgb
  have hHG := Aside0.mk hgb
  have hkl : (k : Int) < (t.f2.length : Int) := by omega
  have hk0 : (0 : Int) ≤ (k : Int) := by omega
  have HI := Lib.hid (show turnNE t k false = _ by unfold turnNE; rw [hst, hs])
  rw [hst, hs]
  rw [hs] at e4
  rw [hid] at e0
  have HS := Lib.hid hs
  have HID := Lib.hid hid
  have hne' : gi ≠ g := Ne.symm hne
  obtain ⟨C, hC⟩ : ∃ C, turnNE t k false = C := ⟨_, rfl⟩
  rw [hC] at HI ⊢
  clear hE hE' hL ht hU hB hcl hM hcc hfr hst hs hgb hib hid hC
  by_cases hr : st = 0
  · obtain rfl : C = 12 := by rw [HI.out, if_pos (.inr ⟨rfl, hr⟩)]
    subst hr
    go_enter Tryd.func108, Tryd.ntmps108
    go_wp2_with fail
    go_region
    all_goals
      go_wp2
      go_ret
      exact ⟨rfl, (HU.out.step (below_drew (Below.refl _ _))).tch, fun h => absurd h (by decide)⟩
  have hq : (st == 0) = false := by simpa using hr
  have HI2 := Lib.hid (HI.out.trans (if_neg (by rintro (⟨h, -⟩ | ⟨-, h⟩); cases h; exact hr h)))
  clear HI
  by_cases hkz : k = 0
  · obtain rfl : C = 8 := by rw [HI2.out, if_pos hkz]
    subst hkz
    clear HI2
    go_enter Tryd.func108, Tryd.ntmps108
    go_wp2_with fail
    go_region
    all_goals
      go_wp2
      all_goals
        go_ret
        exact ⟨rfl, (HU.out.step (below_drew (Below.refl _ _))).tch, fun h => absurd h (by decide)⟩
  have hkq : ((k : Int) == 0) = false := by rw [beq_eq_false_iff_ne]; omega
  have HI3 := Lib.hid (HI2.out.trans (if_neg hkz))
  clear HI2 hkz
  obtain rfl : C = 0 := HI3.out
  clear HI3 hr
  by_cases h1s : st = 1
  · subst h1s
    have hTI : turnN t k (1 + byI false) = ⟨t.f0, t.f1, t.f2.set k ⟨t.f2[k].f0, t.f2[k].f1, t.f2[k].f2, t.f2[k].f3, (1 - 1 : Int), t.f2[k].f5⟩, t.f3, t.f4⟩ := by unfold turnN byI; rw [if_neg (show ¬ (false = true) by simp), rd75 _ _ hk, Int.sub_eq_add_neg]
    have HTI := Lib.hid hTI
    clear hTI
    go_enter Tryd.func108, Tryd.ntmps108
    go_wp2_with fail
    go_region
    all_goals
      have HUd := Aside0.mk (HU.out.step (below_drew (Below.refl _ _)))
      have HF := Aside0.mk (HUd.out.putN k hk ((1 - 1 : Int)) HTI.out.symm)
      go_wp2
      go_ret
      exact ⟨rfl, HF.out.tch, fun _ => HF.out.lent.back⟩
  have hq1 : (st == 1) = false := by simpa using h1s
  clear h1s
  have hTI : turnN t k (st + byI false) = ⟨t.f0, t.f1, t.f2.set k ⟨t.f2[k].f0, t.f2[k].f1, t.f2[k].f2, t.f2[k].f3, st - 1, t.f2[k].f5⟩, t.f3, t.f4⟩ := by unfold turnN byI; rw [if_neg (show ¬ (false = true) by simp), rd75 _ _ hk, Int.sub_eq_add_neg]
  have HTI := Lib.hid hTI
  clear hTI
  go_enter Tryd.func108, Tryd.ntmps108
  go_wp2_with fail
  go_region
  all_goals
    have HUd := Aside0.mk (HU.out.step (below_drew (Below.refl _ _)))
    have HF := Aside0.mk (HUd.out.putN k hk (st - 1) HTI.out.symm)
    go_wp2
    go_ret
    exact ⟨rfl, HF.out.tch, fun _ => HF.out.lent.back⟩
end Go.Proofs.YtjgomlcdmpcoaaaDoor.H
namespace Go.Proofs.YtjgomlcdmpcoaaaDoor.H
open Go.RowKit Go.Proofs.YtjgomlcdmpcoaaaDoorW.PrintWords Go.Proofs.YtjgomlcdmpcoaaaDoorW.PrintLast Go.Proofs.YtjgomlcdmpcoaaaDoorW.PrintMore
open Go.Proofs.YtjgomlcdmpcoaaaDoor.D Go.Proofs.YtjgomlcdmpcoaaaDoor
set_option linter.unusedVariables false
set_option linter.unusedSimpArgs false
set_option maxRecDepth 100000 in
set_option maxHeartbeats 8000000 in
theorem turnC_up (w0 W : World) (g n cap : Nat) (ts : List S70) (i : Nat) (oki : Nat → Prop) (t : S70) (cv iv : Value) (gi m c E k : Nat) (hB : Below w0.heap.size w0 W) (hL : Lent W w0.heap.size g n cap ts i oki t cv iv) (ht : tableB t = true) (hv : cv = .slice (some ⟨gi, 0, none⟩) m c) (hk : k < t.f2.length)
    (hE : ElemOk E ⟨g, i * 5, none⟩ ⟨gi, k * 9 + 3, none⟩ k false false W) :
    Calls Tryd.prog 108 #[.pointer (some ⟨E, 0, none⟩), .bool true] W (TurnPost w0 W g n cap ts i (turnCE t k true) (turnC t k ((rd_T75 t.f2 (k : Int)).f3 + byI true))) := by
  obtain ⟨m2, m3, m4, m5⟩ := tableB_lens ht
  have hE' : W.heap[E]? = some (.cells #[.pointer (some ⟨g, i * 5, none⟩), .pointer (some ⟨gi, k * 9 + 3, none⟩), .int .i64 k, .bool false, .bool false] 148 (0, 0)) := hE
  have hHE := Aside0.mk hE'
  subst hv
  obtain rfl : m = t.f2.length := (Kd.R_reads' hL.cols).1
  have h0 := blk_cell (j := 0) (v := .pointer (some ⟨g, i * 5, none⟩)) hE' rfl
  have h1 := blk_cell (j := 1) (v := .pointer (some ⟨gi, k * 9 + 3, none⟩)) hE' rfl
  have h2 := blk_cell (j := 2) (v := .int .i64 k) hE' rfl
  have h3 := blk_cell (j := 3) (v := .bool false) hE' rfl
  have h4 := blk_cell (j := 4) (v := .bool false) hE' rfl
  have hU := (⟨hL, Tch.refl _ _, hB.size⟩ : UpdSt w0 W W g n cap ts i oki t _ _)
  have hst : (rd_T75 t.f2 (k : Int)) = t.f2[k] := rd75 _ _ hk
  obtain ⟨cz, hcl, hM, hcc, hfr⟩ := Kd.R_elem hL.cols z75 (k : Int) (by omega) (by omega)
  rw [show t.f2.getD (k : Int).toNat z75 = t.f2[k] by simp [List.getD, hk]] at hM
  obtain rfl := k75_openM hM
  have e4 : W.cell? ⟨gi, k * 9 + 3, none⟩ = some (.int .i64 t.f2[k].f3) := hcc 3 _ rfl
  have f4 : W.frozen? ⟨gi, k * 9 + 3, none⟩ = false := hfr 3
  have e0 : W.cell? ⟨gi, k * 9, none⟩ = some (.int .i64 t.f2[k].f0) := hcc 0 _ rfl
  obtain ⟨st, hs⟩ : ∃ st, t.f2[k].f3 = st := ⟨_, rfl⟩
  obtain ⟨id, hid⟩ : ∃ id, t.f2[k].f0 = id := ⟨_, rfl⟩
  have hst4 : 0 ≤ st ∧ st ≤ 4 := by
    have hb := tcolsB_all _ _ _ (by unfold tableB at ht; simp only [Bool.and_eq_true] at ht; exact ht.2.2.2.2.2.2.1) t.f2[k] (List.getElem_mem hk)
    unfold columnB stateB at hb
    simp only [Bool.and_eq_true, decide_eq_true_eq] at hb
    omega
  have HU := Aside0.mk hU
  have HB := Aside0.mk hB
  have hlc := (Kd.R_reads' hL.cols).2.1
  have hne : g ≠ gi := fun e => hL.oki_ne gi (hL.cols.1 gi (by simp [Value.ownBlock])) e.symm
  obtain ⟨gcs, hgb⟩ := hL.blk
  obtain ⟨ics, hib⟩ := Kd.R_typed hL.cols gi (by simp [Value.ownBlock])
  have hEg : E ≠ g := (blk_ne hE' hgb (by decide))
  have hEi : E ≠ gi := (blk_ne hE' hib (by decide))
  have a2 := hL.cell 2 rfl
  have fa := hL.frozen (i * 5 + 2)
  have hEl := lt_of_block hE'
  have hgl := lt_of_block hgb
  have hHG := Aside0.mk hgb
  have hkl : (k : Int) < (t.f2.length : Int) := by omega
  have hk0 : (0 : Int) ≤ (k : Int) := by omega
  have HI := Lib.hid (show turnCE t k true = _ by unfold turnCE; rw [hst, hs, hid])
  rw [hst, hs]
  rw [hs] at e4
  rw [hid] at e0
  have HS := Lib.hid hs
  have HID := Lib.hid hid
  have hne' : gi ≠ g := Ne.symm hne
  obtain ⟨C, hC⟩ : ∃ C, turnCE t k true = C := ⟨_, rfl⟩
  rw [hC] at HI ⊢
  clear hE hE' hL ht hU hB hcl hM hcc hfr hst hs hgb hib hid hC
  by_cases hr : st = 4
  · obtain rfl : C = 12 := by rw [HI.out, if_pos (.inl ⟨rfl, hr⟩)]
    subst hr
    go_enter Tryd.func108, Tryd.ntmps108
    go_wp2_with fail
    go_region
    all_goals
      go_wp2
      go_ret
      exact ⟨rfl, (HU.out.step (below_drew (Below.refl _ _))).tch, fun h => absurd h (by decide)⟩
  have hq : (st == 4) = false := by simpa using hr
  have HI2 := Lib.hid (HI.out.trans (if_neg (by rintro (⟨-, h⟩ | ⟨h, -⟩); exact hr h; cases h)))
  clear HI
  by_cases hkz : k = 0
  · obtain rfl : C = 8 := by rw [HI2.out, if_pos hkz]
    subst hkz
    clear HI2
    go_enter Tryd.func108, Tryd.ntmps108
    go_wp2_with fail
    go_region
    all_goals
      go_wp2
      all_goals
        go_ret
        exact ⟨rfl, (HU.out.step (below_drew (Below.refl _ _))).tch, fun h => absurd h (by decide)⟩
  have hkq : ((k : Int) == 0) = false := by rw [beq_eq_false_iff_ne]; omega
  have HI3 := Lib.hid (HI2.out.trans (if_neg hkz))
  clear HI2 hkz
  obtain rfl : C = 0 := by rw [HI3.out, if_neg (by rintro ⟨h, -⟩; cases h)]
  clear HI3 hr
  have hTI : turnC t k (st + byI true) = ⟨t.f0, t.f1, t.f2.set k ⟨t.f2[k].f0, t.f2[k].f1, t.f2[k].f2, st + 1, t.f2[k].f4, t.f2[k].f5⟩, t.f3, t.f4⟩ := by unfold turnC byI; rw [if_pos rfl, if_neg (by omega), rd75 _ _ hk]
  have HTI := Lib.hid hTI
  clear hTI
  go_enter Tryd.func108, Tryd.ntmps108
  go_wp2_with fail
  go_region
  all_goals
    have HUd := Aside0.mk (HU.out.step (below_drew (Below.refl _ _)))
    have HF := Aside0.mk (HUd.out.putS k hk (st + 1) HTI.out.symm)
    go_wp2
    go_ret
    exact ⟨rfl, HF.out.tch, fun _ => HF.out.lent.back⟩
set_option maxRecDepth 100000 in
set_option maxHeartbeats 8000000 in
theorem turnC_dn (w0 W : World) (g n cap : Nat) (ts : List S70) (i : Nat) (oki : Nat → Prop) (t : S70) (cv iv : Value) (gi m c E k : Nat) (hB : Below w0.heap.size w0 W) (hL : Lent W w0.heap.size g n cap ts i oki t cv iv) (ht : tableB t = true) (hv : cv = .slice (some ⟨gi, 0, none⟩) m c) (hk : k < t.f2.length)
    (hE : ElemOk E ⟨g, i * 5, none⟩ ⟨gi, k * 9 + 3, none⟩ k false false W) :
    Calls Tryd.prog 108 #[.pointer (some ⟨E, 0, none⟩), .bool false] W (TurnPost w0 W g n cap ts i (turnCE t k false) (turnC t k ((rd_T75 t.f2 (k : Int)).f3 + byI false))) := by
  obtain ⟨m2, m3, m4, m5⟩ := tableB_lens ht
  have hE' : W.heap[E]? = some (.cells #[.pointer (some ⟨g, i * 5, none⟩), .pointer (some ⟨gi, k * 9 + 3, none⟩), .int .i64 k, .bool false, .bool false] 148 (0, 0)) := hE
  have hHE := Aside0.mk hE'
  subst hv
  obtain rfl : m = t.f2.length := (Kd.R_reads' hL.cols).1
  have h0 := blk_cell (j := 0) (v := .pointer (some ⟨g, i * 5, none⟩)) hE' rfl
  have h1 := blk_cell (j := 1) (v := .pointer (some ⟨gi, k * 9 + 3, none⟩)) hE' rfl
  have h2 := blk_cell (j := 2) (v := .int .i64 k) hE' rfl
  have h3 := blk_cell (j := 3) (v := .bool false) hE' rfl
  have h4 := blk_cell (j := 4) (v := .bool false) hE' rfl
  have hU := (⟨hL, Tch.refl _ _, hB.size⟩ : UpdSt w0 W W g n cap ts i oki t _ _)
  have hst : (rd_T75 t.f2 (k : Int)) = t.f2[k] := rd75 _ _ hk
  obtain ⟨cz, hcl, hM, hcc, hfr⟩ := Kd.R_elem hL.cols z75 (k : Int) (by omega) (by omega)
  rw [show t.f2.getD (k : Int).toNat z75 = t.f2[k] by simp [List.getD, hk]] at hM
  obtain rfl := k75_openM hM
  have e4 : W.cell? ⟨gi, k * 9 + 3, none⟩ = some (.int .i64 t.f2[k].f3) := hcc 3 _ rfl
  have f4 : W.frozen? ⟨gi, k * 9 + 3, none⟩ = false := hfr 3
  have e0 : W.cell? ⟨gi, k * 9, none⟩ = some (.int .i64 t.f2[k].f0) := hcc 0 _ rfl
  obtain ⟨st, hs⟩ : ∃ st, t.f2[k].f3 = st := ⟨_, rfl⟩
  obtain ⟨id, hid⟩ : ∃ id, t.f2[k].f0 = id := ⟨_, rfl⟩
  have hst4 : 0 ≤ st ∧ st ≤ 4 := by
    have hb := tcolsB_all _ _ _ (by unfold tableB at ht; simp only [Bool.and_eq_true] at ht; exact ht.2.2.2.2.2.2.1) t.f2[k] (List.getElem_mem hk)
    unfold columnB stateB at hb
    simp only [Bool.and_eq_true, decide_eq_true_eq] at hb
    omega
  have HU := Aside0.mk hU
  have HB := Aside0.mk hB
  have hlc := (Kd.R_reads' hL.cols).2.1
  have hne : g ≠ gi := fun e => hL.oki_ne gi (hL.cols.1 gi (by simp [Value.ownBlock])) e.symm
  obtain ⟨gcs, hgb⟩ := hL.blk
  obtain ⟨ics, hib⟩ := Kd.R_typed hL.cols gi (by simp [Value.ownBlock])
  have hEg : E ≠ g := (blk_ne hE' hgb (by decide))
  have hEi : E ≠ gi := (blk_ne hE' hib (by decide))
  have a2 := hL.cell 2 rfl
  have fa := hL.frozen (i * 5 + 2)
  have hEl := lt_of_block hE'
  have hgl := lt_of_block hgb
  have hHG := Aside0.mk hgb
  have hkl : (k : Int) < (t.f2.length : Int) := by omega
  have hk0 : (0 : Int) ≤ (k : Int) := by omega
  have HI := Lib.hid (show turnCE t k false = _ by unfold turnCE; rw [hst, hs, hid])
  rw [hst, hs]
  rw [hs] at e4
  rw [hid] at e0
  have HS := Lib.hid hs
  have HID := Lib.hid hid
  have hne' : gi ≠ g := Ne.symm hne
  obtain ⟨C, hC⟩ : ∃ C, turnCE t k false = C := ⟨_, rfl⟩
  rw [hC] at HI ⊢
  clear hE hE' hL ht hU hB hcl hM hcc hfr hst hs hgb hib hid hC
  by_cases hr : st = 0
  · obtain rfl : C = 12 := by rw [HI.out, if_pos (.inr ⟨rfl, hr⟩)]
    subst hr
    go_enter Tryd.func108, Tryd.ntmps108
    go_wp2_with fail
    go_region
    all_goals
      go_wp2
      go_ret
      exact ⟨rfl, (HU.out.step (below_drew (Below.refl _ _))).tch, fun h => absurd h (by decide)⟩
  have hq : (st == 0) = false := by simpa using hr
  have HI2 := Lib.hid (HI.out.trans (if_neg (by rintro (⟨h, -⟩ | ⟨-, h⟩); cases h; exact hr h)))
  clear HI
  by_cases hkz : k = 0
  · obtain rfl : C = 8 := by rw [HI2.out, if_pos hkz]
    subst hkz
    clear HI2
    go_enter Tryd.func108, Tryd.ntmps108
    go_wp2_with fail
    go_region
    all_goals
      go_wp2
      all_goals
        go_ret
        exact ⟨rfl, (HU.out.step (below_drew (Below.refl _ _))).tch, fun h => absurd h (by decide)⟩
  have hkq : ((k : Int) == 0) = false := by rw [beq_eq_false_iff_ne]; omega
  have HI3 := Lib.hid (HI2.out.trans (if_neg hkz))
  clear HI2 hkz
  by_cases h1s : st = 1
  · subst h1s
    have HTI := Lib.hid (show turnC t k (1 + byI false) = ⟨t.f0, t.f1, t.f2.eraseIdx k, t.f3, t.f4⟩ by unfold turnC byI; rw [if_pos (by decide)])
    have HQ := Lib.hid (leaned_calls id ⟨g, i * 5, none⟩ t.f3)
    obtain ⟨lb, hlb⟩ : ∃ lb, usedB id t.f3 = lb := ⟨_, rfl⟩
    have HLB := Lib.hid hlb
    obtain ⟨Ai, ci, hiv⟩ := Kd.R_slice HU.out.lent.inds
    subst hiv
    clear hr hq hlb
    go_enter Tryd.func108, Tryd.ntmps108
    go_wp2_with fail
    go_region
    all_goals
      have HUd := Aside0.mk (HU.out.step (below_drew (Below.refl _ _)))
      go_wp2_with fail
      refine (HQ.out Ai ci W.drew (HUd.out.lent.cell 3 rfl) (Kd.R_reads' HUd.out.lent.inds).2.2).mono ?_
      rw [HLB.out]
      rintro e w1 ⟨rfl, hb1⟩
      have hbW := Aside0.mk (show Below W.heap.size W w1 from below_then (below_drew (Below.refl _ W)) (Nat.le_refl _) hb1)
      have HU1 := Aside0.mk (HUd.out.step hb1)
      have hE1 := blk_below hHE.out hbW.out
      have h0 := blk_cell (j := 0) (v := .pointer (some ⟨g, i * 5, none⟩)) hE1 rfl
      have h2 := blk_cell (j := 2) (v := .int .i64 k) hE1 rfl
      have h3 := blk_cell (j := 3) (v := .bool false) hE1 rfl
      have a2 := HU1.out.lent.cell 2 rfl
      have hEl := lt_of_block hE1
      have hG1 := blk_below hHG.out hbW.out
      have hgl := lt_of_block hG1
      have fa := blk_frozen hG1 (i * 5 + 2)
      have hHE1 := Aside0.mk hE1
      have hHG1 := Aside0.mk hG1
      clear h1 h4 e4 f4 e0 hst4 hlc HU HUd hHE hHG hE1 hG1 hb1 HQ
      cases lb with
      | true =>
        obtain rfl : C = 18 := by rw [HI3.out, if_pos (by refine ⟨?_, ?_, HLB.out⟩ <;> simp)]
        clear HI3
        go_wp2
        go_ret
        exact ⟨rfl, HU1.out.tch, fun h => absurd h (by decide)⟩
      | false =>
        obtain rfl : C = 0 := by rw [HI3.out, if_neg (by rintro ⟨-, -, h⟩; rw [HLB.out] at h; cases h)]
        have HDL := Lib.hid (del151 t.f2 gi c k w1.drew w0.heap.size oki (Kd.R_drew HU1.out.lent.cols) hk (by omega))
        have HARM := Lib.hid (fun (w3 : World) (hg3 : w1.drew.grownBy w3 (some gi)) => (show w3.cell? ⟨E, 0, none⟩ = some (.pointer (some ⟨g, i * 5, none⟩)) ∧ w3.cell? ⟨E, 2, none⟩ = some (.int .i64 k) ∧ w3.frozen? ⟨g, i * 5 + 2, none⟩ = false ∧ g < w3.heap.size ∧ w3.cell? ⟨g, i * 5 + 2, none⟩ = some (.slice (some ⟨gi, 0, none⟩) t.f2.length c) by
          have hE3 := blk_grown (blk_below hHE1.out (below_drew (Below.refl _ _))) hg3 (fun h => hEi (by injection h))
          have hG3 := blk_grown (blk_below hHG1.out (below_drew (Below.refl _ _))) hg3 (fun h => hne (by injection h))
          exact ⟨blk_cell hE3 rfl, blk_cell hE3 rfl, blk_frozen hG3 _, lt_of_block hG3, hg3.cell (pw_cell_below (below_drew (Below.refl _ w1)) a2) (fun h => hne (by injection h))⟩))
        have hwk : IntKind.i64.wrap ((k : Int) + 1) = (k : Int) + 1 := IntWalk.i64_in _ (by omega)
        clear HI3
        go_wp2_with fail
        clear h3 m2 m3 m4 m5
        go_region_law ((go_simp; go_at_call 151; refine HDL.out.mono ?_; rintro e w3 ⟨rfl, hr3, hg3⟩; obtain ⟨z0, z2, zf, zl, y3⟩ := HARM.out w3 hg3))
        all_goals
          have HF := Aside0.mk ((HU1.out.step (below_drew (Below.refl _ _))).setC hg3 hr3 HTI.out.symm)
          clear hr3 hg3 z0 z2 zf y3 a2 fa HDL HARM
          go_wp2
          go_ret
          exact ⟨rfl, HF.out.tch, fun _ => HF.out.lent.back⟩
  have hq1 : (st == 1) = false := by simpa using h1s
  obtain rfl : C = 0 := by rw [HI3.out, if_neg (by rintro ⟨-, h, -⟩; exact h1s h)]
  clear HI3
  have hTI : turnC t k (st + byI false) = ⟨t.f0, t.f1, t.f2.set k ⟨t.f2[k].f0, t.f2[k].f1, t.f2[k].f2, st - 1, t.f2[k].f4, t.f2[k].f5⟩, t.f3, t.f4⟩ := by unfold turnC byI; rw [if_neg (show ¬ (false = true) by simp), if_neg (by omega), rd75 _ _ hk, Int.sub_eq_add_neg]
  have HTI := Lib.hid hTI
  clear hTI
  go_enter Tryd.func108, Tryd.ntmps108
  go_wp2_with fail
  go_region
  all_goals
    have HUd := Aside0.mk (HU.out.step (below_drew (Below.refl _ _)))
    have HF := Aside0.mk (HUd.out.putS k hk (st - 1) HTI.out.symm)
    go_wp2
    go_ret
    exact ⟨rfl, HF.out.tch, fun _ => HF.out.lent.back⟩
end Go.Proofs.YtjgomlcdmpcoaaaDoor.H
namespace Go.Proofs.YtjgomlcdmpcoaaaDoor.H
open Go.RowKit Go.Proofs.YtjgomlcdmpcoaaaDoorW.PrintWords Go.Proofs.YtjgomlcdmpcoaaaDoorW.PrintLast Go.Proofs.YtjgomlcdmpcoaaaDoorW.PrintMore
open Go.Proofs.YtjgomlcdmpcoaaaDoor.D Go.Proofs.YtjgomlcdmpcoaaaDoor
set_option linter.unusedVariables false
set_option linter.unusedSimpArgs false
set_option maxRecDepth 100000 in
set_option maxHeartbeats 4000000 in
theorem colOf_no (E : Nat) (pa : Addr) (sp : Value) (at0 : Int) (ix0 rl0 : Bool) (xs : List S75) (A : Option Addr) (c : Nat) (id : Int) (rule : Bool) (w : World) (hE : w.heap[E]? = some (.cells #[.pointer (some pa), sp, .int .i64 at0, .bool ix0, .bool rl0] 148 (0, 0)))
    (hp : w.cell? ⟨pa.block, pa.off + 2, none⟩ = some (.slice A xs.length c)) (hC : k75.C w A xs.length xs) (hpE : pa.block ≠ E) (hk : idxL (cId id) xs 0 = -1) :
    Calls Tryd.prog 175 #[.pointer (some ⟨E, 0, none⟩), .int .i64 id, .bool rule] w fun e w' => e = .returned (.bool false) ∧ Below E w w' := by
  have hEl := blk_lt hE
  have HX := Aside0.mk (blk_alloc hE (.cells #[.int .i64 id] 3))
  have hmf : ∀ (fn : Fn) (first cap : Array Value) (w : World), (Instr.makeFunc fn first cap).run Tryd.prog w = .ok (.func fn first cap) w := fun _ _ _ _ => rfl
  have e0 := blk_cell (j := 0) (v := .pointer (some pa)) hE rfl
  have HQ := Lib.hid (idx75 180 #[.pointer (some ⟨w.heap.size, 0, none⟩)] enters180 (fun x => x.f0 == id) A c xs (w.alloc (.cells #[.int .i64 id] 3)) (Kd.C_below hC (below_alloc (Below.refl _ _) _)) (pred180 id w.heap.size _ (by simp) (blk_cell (heap_alloc_new w (.cells #[.int .i64 id] 3)) rfl)))
  rw [idxL_same (fun x : S75 => x.f0 == id) (cId id) (fun x => by unfold cId; rfl), hk] at HQ
  have hl := World.block_lt_of_cell? w _ hp
  clear hC hk
  go_enter Tryd.func175, Tryd.ntmps175
  go_wp2_with fail
  refine HQ.out.mono ?_
  rintro e w1 ⟨rfl, hb1⟩
  have hx1 := blk_below HX.out hb1
  have c2 := blk_cell (j := 2) (v := .int .i64 at0) hx1 rfl
  have f2 := blk_frozen hx1 2
  have hbb : Below E w (w1.setCell ⟨E, 2, none⟩ (.int .i64 (-1))) := Below.setCell (p := ⟨E, 2, none⟩) (((below_alloc (Below.refl _ w) (.cells #[.int .i64 id] 3)).trans (hb1.mono (by simp))).mono (Nat.le_of_lt hEl)) (Nat.le_refl _) _
  have HB := Aside0.mk hbb
  clear hx1 hbb hb1 e0 hE
  go_wp2
  go_ret
  exact ⟨rfl, HB.out⟩
set_option maxRecDepth 100000 in
set_option maxHeartbeats 4000000 in
theorem colOf_yes (E : Nat) (pa : Addr) (sp : Value) (at0 : Int) (ix0 rl0 : Bool) (xs : List S75) (ad : Addr) (c : Nat) (id : Int) (rule : Bool) (k : Nat) (w : World) (hE : w.heap[E]? = some (.cells #[.pointer (some pa), sp, .int .i64 at0, .bool ix0, .bool rl0] 148 (0, 0))) (hsp : sp = .pointer none)
    (hp : w.cell? ⟨pa.block, pa.off + 2, none⟩ = some (.slice (some ad) xs.length c)) (hC : k75.C w (some ad) xs.length xs) (hpE : pa.block ≠ E) (hk : idxL (cId id) xs 0 = (k : Int)) (hkl : k < xs.length) :
    Calls Tryd.prog 175 #[.pointer (some ⟨E, 0, none⟩), .int .i64 id, .bool rule] w fun e w' => e = .returned (.bool true) ∧ Below E w w' ∧ ElemOk E pa ⟨(ad.add (k * 9)).block, (ad.add (k * 9)).off + (if rule = true then 4 else 3), none⟩ k ix0 rule w' := by
  obtain ⟨A, hA⟩ : ∃ A, A = some ad := ⟨_, rfl⟩
  rw [← hA] at hp hC
  have hEl := blk_lt hE
  have HX := Aside0.mk (blk_alloc hE (.cells #[.int .i64 id] 3))
  have hmf : ∀ (fn : Fn) (first cap : Array Value) (w : World), (Instr.makeFunc fn first cap).run Tryd.prog w = .ok (.func fn first cap) w := fun _ _ _ _ => rfl
  have e0 := blk_cell (j := 0) (v := .pointer (some pa)) hE rfl
  have HQ := Lib.hid (idx75 180 #[.pointer (some ⟨w.heap.size, 0, none⟩)] enters180 (fun x => x.f0 == id) A c xs (w.alloc (.cells #[.int .i64 id] 3)) (Kd.C_below hC (below_alloc (Below.refl _ _) _)) (pred180 id w.heap.size _ (by simp) (blk_cell (heap_alloc_new w (.cells #[.int .i64 id] 3)) rfl)))
  rw [idxL_same (fun x : S75 => x.f0 == id) (cId id) (fun x => by unfold cId; rfl), hk] at HQ
  have hl := World.block_lt_of_cell? w _ hp
  rw [hA] at HQ hp
  have hki : (k : Int) < (xs.length : Int) := by omega
  have hk0 : (0 : Int) ≤ (k : Int) := by omega
  subst hsp
  clear hC hk hA
  go_enter Tryd.func175, Tryd.ntmps175
  go_wp2_with fail
  refine HQ.out.mono ?_
  rintro e w1 ⟨rfl, hb1⟩
  have hx1 := blk_below HX.out hb1
  have c2 := blk_cell (j := 2) (v := .int .i64 at0) hx1 rfl
  have f2 := blk_frozen hx1 2
  have HB := Aside0.mk (((below_alloc (Below.refl _ w) (.cells #[.int .i64 id] 3)).trans (hb1.mono (by simp))).mono (Nat.le_of_lt hEl) : Below E w w1)
  have hp1 := pw_cell_below (below_then (below_alloc (Below.refl _ w) (.cells #[.int .i64 id] 3)) (by simp) hb1) hp
  have HX1 := Aside0.mk hx1
  clear hx1 hb1 e0 hE hp
  go_wp2_with fail
  have hx2 := blk_put HX1.out 2 (.int .i64 (k : Int)) rfl
  have hp2 : (w1.setCell ⟨E, 2, none⟩ (.int .i64 (k : Int))).cell? ⟨pa.block, pa.off + 2, none⟩ = some (.slice (some ad) xs.length c) := by
    rw [← hp1]; exact cell_same (Below.heap_setCell _ _ _ _ hpE)
  have HB2 := Aside0.mk (HB.out.setCell (p := ⟨E, 2, none⟩) (Nat.le_refl _) (.int .i64 (k : Int)))
  clear c2 f2 hp1 HX1 HB HX
  generalize w1.setCell ⟨E, 2, none⟩ (.int .i64 (k : Int)) = w2 at hx2 hp2 HB2 ⊢
  have c0 := blk_cell (j := 0) (v := .pointer (some pa)) hx2 rfl
  have c1 := blk_cell (j := 1) (v := .pointer none) hx2 rfl
  have c2 := blk_cell (j := 2) (v := .int .i64 (k : Int)) hx2 rfl
  have c4 := blk_cell (j := 4) (v := .bool rl0) hx2 rfl
  have f1 := blk_frozen hx2 1
  have f4 := blk_frozen hx2 4
  have hpE' : ¬ E = pa.block := Ne.symm hpE
  have HX2 := Aside0.mk hx2
  clear hx2
  cases rule
  all_goals
    go_wp2_with fail
    go_region
    all_goals
      go_wp2
      go_ret
      first
        | exact ⟨rfl, below_drew ((HB2.out.setCell (p := ⟨E, 1, none⟩) (Nat.le_refl _) _).setCell (p := ⟨E, 4, none⟩) (Nat.le_refl _) _), blk_put (blk_put HX2.out 1 _ rfl) 4 _ rfl⟩
        | exact ⟨rfl, below_drew (((HB2.out.setCell (p := ⟨E, 1, none⟩) (Nat.le_refl _) _).setCell (p := ⟨E, 4, none⟩) (Nat.le_refl _) _).setCell (p := ⟨E, 1, none⟩) (Nat.le_refl _) _), blk_put (blk_put (blk_put HX2.out 1 _ rfl) 4 _ rfl) 1 _ rfl⟩
end Go.Proofs.YtjgomlcdmpcoaaaDoor.H
