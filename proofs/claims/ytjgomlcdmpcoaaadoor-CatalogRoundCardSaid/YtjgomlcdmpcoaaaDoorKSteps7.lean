/- Own texts of this session, packed by its program wip/pp/pack.py: lemmas and walks of functions. -/
import Derived.Deep.AppendLies
import Derived.Deep.RegionLaw
import Derived.Deep.RegionHeld3
import Derived.Carry
import Derived.Lib.SmallJoins
import Derived.WideMake
import Derived.Test.YtjgomlcdmpcoaaaDoorKSteps2
import Derived.Test.YtjgomlcdmpcoaaaDoorKSteps4
import Derived.Test.YtjgomlcdmpcoaaaDoorKSteps5
import Derived.Test.YtjgomlcdmpcoaaaDoorKSteps6
namespace Go.Proofs.YtjgomlcdmpcoaaaDoor.H
open Go.RowKit Go.Proofs.YtjgomlcdmpcoaaaDoorW.PrintWords Go.Proofs.YtjgomlcdmpcoaaaDoorW.PrintLast Go.Proofs.YtjgomlcdmpcoaaaDoorW.PrintMore
open Go.Proofs.YtjgomlcdmpcoaaaDoor.D Go.Proofs.YtjgomlcdmpcoaaaDoor
set_option linter.unusedVariables false
set_option linter.unusedSimpArgs false
theorem tableB_lens {t : S70} (h : tableB t = true) : 1 ≤ t.f2.length ∧ t.f2.length ≤ 8 ∧ t.f3.length ≤ 4 ∧ ∀ x ∈ t.f3, 1 ≤ x.f2.length ∧ x.f2.length ≤ 8 := by
  unfold tableB at h
  simp only [Bool.and_eq_true, decide_eq_true_eq] at h
  obtain ⟨_, _, h3, h4, h5, h6, h7, h8, _⟩ := h
  refine ⟨h3, h4, h5, fun x hx => ?_⟩
  have := tindsB_all _ _ _ h8 x hx
  unfold indexB at this
  simp only [Bool.and_eq_true, decide_eq_true_eq] at this
  exact ⟨this.2.1, this.2.2.1⟩
theorem schB_tab {v : Int} {ts : List S70} {nx : Int} (h : schB v ts nx = true) : ∀ t ∈ ts, tableB t = true := by
  unfold schB at h
  simp only [Bool.and_eq_true, decide_eq_true_eq] at h
  exact tabsB_all _ _ _ h.2.2.2.2.2
theorem ref_elem (t : S70) (h2 : t.f2.length < 1000) (h3 : t.f3.length < 1000) (kind elem : Int) (k : Nat) (hk : 1010 < k) (i : Int) (v : Int) (ts : List S70) (nx : Int) (h0 : 0 ≤ i) (h1 : i < ts.length) (ht : rd_T70 ts i = t) :
    falseworkref18_State.j0 k kind elem i false v ts nx = some (elemI t kind elem) := by
  obtain ⟨k, rfl⟩ : ∃ k', k = k' + 1 + 1 + 1 + 1 := ⟨k - 4, by omega⟩
  have hj3 : ∀ x : Int, (x = -1 ∨ ∃ j : Nat, ∃ h : j < t.f2.length, x = (j : Int)) → ∀ b : Bool, falseworkref18_State.j3 (k + 1) x (decide (0 ≤ x) && b) t.f0 t.f1 t.f2 t.f3 t.f4 = some (if 0 ≤ x then (if b = true then (rd_T75 t.f2 x).f3 else (rd_T75 t.f2 x).f4) else -1) := by
    intro x hx b
    rw [falseworkref18_State.j3]
    rcases hx with rfl | ⟨j, hj, rfl⟩
    · simp
    · have e1 : (0 : Int) ≤ j := by omega
      have e2 : (j : Int) < t.f2.length := by omega
      rw [decide_eq_true e1, Bool.true_and]
      cases b
      · rw [if_neg (by simp), if_pos (by omega), if_pos e1, if_pos e2, if_pos e1, if_neg (by simp)]
      · rw [if_pos rfl, if_pos e1, if_pos e2, if_pos e1, if_pos rfl]
  have hcol := idxL_at (cId elem) t.f2
  have hix := idxL_at (xId elem) t.f3
  have hcr := column_run t elem (by omega) t.f2.length (k + 1) 0 (by omega) (by omega)
  have hir := index_run t elem (by omega) t.f3.length (k + 1 + 1) 0 (by omega) (by omega)
  rw [List.drop_zero] at hcr hir
  have hcr' : falseworkref18_column.f (k + 1) t.f0 t.f1 t.f2 t.f3 t.f4 elem = some (idxL (cId elem) t.f2 0) := hcr
  have hir' : falseworkref18_index.f (k + 1 + 1) t.f0 t.f1 t.f2 t.f3 t.f4 elem = some (idxL (xId elem) t.f3 0) := hir
  have hj2 : ∀ b : Bool, falseworkref18_State.j2 (k + 1 + 1) kind elem b t.f0 t.f1 t.f2 t.f3 t.f4 = some (if b = true then (if 0 ≤ idxL (cId elem) t.f2 0 then (if kind < 10 then (rd_T75 t.f2 (idxL (cId elem) t.f2 0)).f3 else (rd_T75 t.f2 (idxL (cId elem) t.f2 0)).f4) else -1) else -1) := by
    intro b
    rw [falseworkref18_State.j2]
    cases b
    · rw [if_neg (by simp), if_neg (by simp)]
    · rw [if_pos rfl, if_pos rfl, hcr', Option.bind_some]
      have h := hj3 (idxL (cId elem) t.f2 0) (hcol.elim .inl fun ⟨j, hj, e, _⟩ => .inr ⟨j, hj, e⟩) (decide (kind < 10))
      by_cases hp : 0 ≤ idxL (cId elem) t.f2 0
      · rw [decide_eq_true hp, Bool.true_and] at h
        rw [if_pos hp, h]
        by_cases hq : kind < 10 <;> simp [hq]
      · rw [decide_eq_false hp, Bool.false_and] at h
        rw [if_neg hp, h]
        by_cases hq : kind < 10 <;> simp [hq, hp]
  have hj1 : ∀ b : Bool, falseworkref18_State.j1 (k + 1 + 1 + 1) kind elem kind b t.f0 t.f1 t.f2 t.f3 t.f4 = some (if b = true then (if 0 ≤ idxL (xId elem) t.f3 0 then (rd_T98 t.f3 (idxL (xId elem) t.f3 0)).f4 else -1) else if 8 ≤ kind ∧ kind ≤ 11 then (if 0 ≤ idxL (cId elem) t.f2 0 then (if kind < 10 then (rd_T75 t.f2 (idxL (cId elem) t.f2 0)).f3 else (rd_T75 t.f2 (idxL (cId elem) t.f2 0)).f4) else -1) else -1) := by
    intro b
    rw [falseworkref18_State.j1]
    cases b
    · simp only [hj2, Bool.false_eq_true, if_false]
      by_cases a8 : kind = 8
      · subst a8; simp
      by_cases a9 : kind = 9
      · subst a9; simp
      by_cases a10 : kind = 10
      · subst a10; simp
      by_cases a11 : kind = 11
      · subst a11; simp
      rw [if_neg a8, if_neg a9, if_neg a10, if_neg (show ¬ (kind == 11) = true by simpa using a11), if_neg (show ¬ (8 ≤ kind ∧ kind ≤ 11) by omega)]
    · rw [if_pos rfl, if_pos rfl, hir', Option.bind_some]
      rcases hix with e | ⟨j, hj, e, _⟩
      · rw [e]; simp
      · rw [e, if_pos (by omega), if_pos (by omega), if_pos (by omega), if_pos (by omega)]
  rw [falseworkref18_State.j0, if_neg (by simp), if_pos h0, if_pos h1, ht, hj1, hj1]
  unfold elemI
  by_cases a6 : kind = 6
  · subst a6; simp
  by_cases a7 : kind = 7
  · subst a7; simp
  rw [if_neg a6, if_neg (show ¬ (kind == 7) = true by simpa using a7), if_neg (show ¬ (kind = 6 ∨ kind = 7) by omega)]
theorem ref_state (v : Int) (ts : List S70) (nx : Int) (hn : ts.length < 1000) (hw : ∀ t ∈ ts, ∀ c ∈ t.f2, ValWf c.f5) (kind table elem : Int) (k : Nat) (hk : 10000 < k) :
    falseworkref18_State.f k v ts nx kind table elem = some (stateI v ts nx kind table elem) := by
  have hb := byId_run table v ts nx (by omega) ts.length k 0 (by omega) (by omega)
  rw [List.drop_zero] at hb
  have hb' : falseworkref18_ByID.f k v ts nx table = some (idxL (tId table) ts 0) := hb
  unfold falseworkref18_State.f stateI
  rw [hb', Option.bind_some, ref_may v ts nx hw k (by omega), Option.bind_some]
  have hj0 : ∀ i, falseworkref18_State.j0 k kind elem i true v ts nx = some (-1) := by
    intro i
    obtain ⟨k, rfl⟩ : ∃ k', k = k' + 1 := ⟨k - 1, by omega⟩
    rw [falseworkref18_State.j0, if_pos rfl]
  rcases idxL_at (tId table) ts with e | ⟨j, hj, e, _⟩
  · rw [e, if_pos (by omega), if_neg (by omega), hj0]
  · rw [e, if_neg (by omega), if_pos (by omega)]
    cases hs : schB v ts nx with
    | false => rw [if_neg (by simp)]; exact hj0 _
    | true =>
      rw [if_pos rfl]
      have hm : ts[j] ∈ ts := List.getElem_mem hj
      obtain ⟨_, a2, a3, _⟩ := tableB_lens (schB_tab hs _ hm)
      exact ref_elem (rd_T70 ts j) (by rw [rd70 _ _ hj]; omega) (by rw [rd70 _ _ hj]; omega) kind elem k (by omega) j v ts nx (by omega) (by omega) rfl
theorem rstate_calls (v : Int) (ts : List S70) (nx : Int) (hn : ts.length < 1000) (hw : ∀ t ∈ ts, ∀ c ∈ t.f2, ValWf c.f5) (kind table elem : Int) (A : Option Addr) (c : Nat) (w : World) (hc : ts.length ≤ c) (g2 : k70.C w A ts.length ts) :
    Calls Tryd.prog 31 #[.agg #[.int .i64 v, .slice A ts.length c, .int .i64 nx], .int .i64 kind, .int .i64 table, .int .i64 elem] w fun e w' => e = .returned (.int .i64 (stateI v ts nx kind table elem)) ∧ Below w.heap.size w w' :=
  falseworkref18_State.calls 10001 v A c ts nx kind table elem _ w g2 hc (ref_state v ts nx hn hw kind table elem 10001 (by omega))
end Go.Proofs.YtjgomlcdmpcoaaaDoor.H
namespace Go.Proofs.YtjgomlcdmpcoaaaDoor.H
open Go.RowKit Go.Proofs.YtjgomlcdmpcoaaaDoorW.PrintWords Go.Proofs.YtjgomlcdmpcoaaaDoorW.PrintLast Go.Proofs.YtjgomlcdmpcoaaaDoorW.PrintMore
open Go.Proofs.YtjgomlcdmpcoaaaDoor.D Go.Proofs.YtjgomlcdmpcoaaaDoor
set_option linter.unusedVariables false
set_option linter.unusedSimpArgs false
def Small (ts : List S70) : Prop := ts.length ≤ 100 ∧ ∀ t ∈ ts, t.f2.length ≤ 100 ∧ t.f3.length ≤ 100 ∧ ∀ x ∈ t.f3, x.f2.length ≤ 100
structure CopySt (w wr : World) (bx : Array Value) (v nx : Int) (u : Value) (l : List S70) : Prop where
  below : Below w.heap.size w wr
  b0 : wr.heap[w.heap.size]? = some (.cells bx 28 (0, 0))
  b1 : wr.heap[w.heap.size + 1]? = some (.cells #[.int .i64 0, .slice none 0 0, .int .i64 0] 28 (0, 0))
  b2 : wr.heap[w.heap.size + 1 + 1]? = some (.cells #[.int .i64 v, u, .int .i64 nx] 28 (0, 0))
  s : Kd.S k70 70 wr w.heap.size (fun _ => True) u l
theorem CopySt.new (w : World) (bx : Array Value) (v nx : Int) : CopySt w (((w.alloc (.cells bx 28)).alloc (.cells #[.int .i64 0, .slice none 0 0, .int .i64 0] 28)).alloc (.cells #[.int .i64 v, .slice none 0 0, .int .i64 nx] 28)) bx v nx (.slice none 0 0) [] := by
  have h1 := heap_alloc_new w (.cells bx 28)
  have h2 := heap_alloc_new (w.alloc (.cells bx 28)) (.cells #[.int .i64 0, .slice none 0 0, .int .i64 0] 28)
  have h3 := heap_alloc_new ((w.alloc (.cells bx 28)).alloc (.cells #[.int .i64 0, .slice none 0 0, .int .i64 0] 28)) (.cells #[.int .i64 v, .slice none 0 0, .int .i64 nx] 28)
  have e1 : (w.alloc (.cells bx 28)).heap.size = w.heap.size + 1 := by simp
  have e2 : ((w.alloc (.cells bx 28)).alloc (.cells #[.int .i64 0, .slice none 0 0, .int .i64 0] 28)).heap.size = w.heap.size + 1 + 1 := by simp
  rw [e1] at h2
  rw [e2] at h3
  exact ⟨below_alloc (below_alloc (below_alloc (Below.refl _ _) _) _) _, blk_alloc (blk_alloc h1 _) _, blk_alloc h2 _, h3, Kd.S_nil _ _ _ _ _⟩
structure CopyIt (wr W : World) (t : S70) (cv iv : Value) (xs : List S98) : Prop where
  below : Below wr.heap.size wr W
  box : W.heap[wr.heap.size]? = some (.cells #[.int .i64 t.f0, .string t.f1, cv, iv, .int .i64 t.f4] 70 (0, 0))
  cols : k75.R 75 W wr.heap.size (fun _ => True) cv t.f2
  inds : k98.R 98 W wr.heap.size (fun _ => True) iv xs
section
variable {wr W W' : World} {t : S70} {cv iv : Value} {xs : List S98}
theorem CopyIt.step (h : CopyIt wr W t cv iv xs) (hb : Below W.heap.size W W') : CopyIt wr W' t cv iv xs :=
  ⟨below_then h.below h.below.size hb, blk_below h.box hb, Kd.R_below h.cols hb, Kd.R_below h.inds hb⟩
theorem CopyIt.start {cv0 iv0 : Value} (hb : Below wr.heap.size wr W) (hx : W.heap[wr.heap.size]? = some (.cells #[.int .i64 t.f0, .string t.f1, cv0, iv0, .int .i64 t.f4] 70 (0, 0))) (hc : k75.R 75 W wr.heap.size (fun _ => True) cv t.f2) :
    CopyIt wr ((W.setCell ⟨wr.heap.size, 2, none⟩ cv).setCell ⟨wr.heap.size, 3, none⟩ (.slice none 0 0)) t cv (.slice none 0 0) [] := by
  have h1 := blk_put hx 2 cv rfl
  exact ⟨(hb.setCell (Nat.le_refl _) _).setCell (Nat.le_refl _) _, blk_put h1 3 _ rfl, Kd.R_set (Kd.R_set hc hx (by decide) 2 _) h1 (by decide) 3 _, Kd.R_nil _ _ _ _ _⟩
theorem CopyIt.next {W1 : World} {iv1 : Value} {x : S98} (h : CopyIt wr W t cv iv xs) (hb : Below wr.heap.size wr W1) (hg : W.grownBy W1 iv.ownBlock) (hi : k98.R 98 W1 wr.heap.size (fun _ => True) iv1 (xs ++ [x])) :
    CopyIt wr (W1.setCell ⟨wr.heap.size, 3, none⟩ iv1) t cv iv1 (xs ++ [x]) := by
  have hx := blk_grown h.box hg (Kd.R_ne h.inds h.box (by decide))
  have hc : k75.R 75 W1 wr.heap.size (fun _ => True) cv t.f2 := Kd.R_over' h.cols (Kd.R_typed h.inds) (by decide) hg
  exact ⟨hb.setCell (Nat.le_refl _) _, blk_put hx 3 _ rfl, Kd.R_set hc hx (by decide) 3 _, Kd.R_set hi hx (by decide) 3 _⟩
end
theorem CopySt.step {w wr W : World} {bx : Array Value} {v nx : Int} {u : Value} {l : List S70} (h : CopySt w wr bx v nx u l) (hb : Below wr.heap.size wr W) : CopySt w W bx v nx u l :=
  ⟨below_then h.below h.below.size hb, blk_below h.b0 hb, blk_below h.b1 hb, blk_below h.b2 hb, Kd.S_below h.s hb⟩
theorem CopySt.next {w wr W W1 : World} {bx : Array Value} {v nx : Int} {u u1 : Value} {l : List S70} {t : S70} (h : CopySt w wr bx v nx u l) (hb : Below wr.heap.size wr W) (hW : Below w.heap.size w W1) (hg : W.grownBy W1 u.ownBlock) (hs : Kd.S k70 70 W1 w.heap.size (fun _ => True) u1 (l ++ [t])) :
    CopySt w (W1.setCell ⟨w.heap.size + 1 + 1, 1, none⟩ u1) bx v nx u1 (l ++ [t]) := by
  have h' := h.step hb
  have ne : ∀ {g : Nat} {cs : Array Value}, W.heap[g]? = some (.cells cs 28 (0, 0)) → some g ≠ u.ownBlock := fun hx => Kd.S_ne h'.s hx (by decide)
  have x0 := blk_grown h'.b0 hg (ne h'.b0)
  have x1 := blk_grown h'.b1 hg (ne h'.b1)
  have x2 := blk_grown h'.b2 hg (ne h'.b2)
  exact ⟨hW.setCell (by show w.heap.size ≤ w.heap.size + 1 + 1; omega) _, blk_far x0 (by show w.heap.size ≠ w.heap.size + 1 + 1; omega) _, blk_far x1 (by show w.heap.size + 1 ≠ w.heap.size + 1 + 1; omega) _, blk_put x2 1 _ rfl, Kd.S_set hs x2 (by decide) 1 _⟩
theorem CopySt.done {w wo : World} {bx : Array Value} {v nx : Int} {u : Value} {l : List S70} (h : CopySt w wo bx v nx u l) (a b c : Value) :
    Kd.S k70 70 (((wo.setCell ⟨w.heap.size + 1, 0, none⟩ a).setCell ⟨w.heap.size + 1, 1, none⟩ b).setCell ⟨w.heap.size + 1, 2, none⟩ c) w.heap.size (fun _ => True) u l ∧
      Below w.heap.size w (((wo.setCell ⟨w.heap.size + 1, 0, none⟩ a).setCell ⟨w.heap.size + 1, 1, none⟩ b).setCell ⟨w.heap.size + 1, 2, none⟩ c) := by
  have h1 := blk_put h.b1 0 a rfl
  have h2 := blk_put h1 1 b rfl
  exact ⟨Kd.S_set (Kd.S_set (Kd.S_set h.s h.b1 (by decide) 0 a) h1 (by decide) 1 b) h2 (by decide) 2 c, ((h.below.setCell (Nat.le_succ _) _).setCell (Nat.le_succ _) _).setCell (Nat.le_succ _) _⟩
set_option maxRecDepth 100000 in
set_option maxHeartbeats 4000000 in
theorem copy_calls (v : Int) (ts : List S70) (nx : Int) (hs : Small ts) (A : Option Addr) (c : Nat) (w : World) (hc : ts.length ≤ c) (g2 : k70.C w A ts.length ts) :
    Calls Tryd.prog 48 #[.agg #[.int .i64 v, .slice A ts.length c, .int .i64 nx]] w fun e w' => ∃ u, e = .returned (.agg #[.int .i64 v, u, .int .i64 nx]) ∧ Kd.S k70 70 w' w.heap.size (fun _ => True) u ts ∧ Below w.heap.size w w' := by
  have HC := Aside0.mk g2
  have HS := Aside0.mk hs
  have hn := hs.1
  have HT := Aside0.mk (CopySt.new w #[.int .i64 v, .slice A ts.length c, .int .i64 nx] v nx)
  clear g2 hs
  go_enter Tryd.func48, Tryd.ntmps48
  go_wp2
  go_loopg [4] ts.length (fun gg u4 wr => ∃ kk : Nat, ∃ u : Value, kk ≤ ts.length ∧ ts.length - kk ≤ gg ∧ u4 = .int .i64 kk ∧ Aside0 (CopySt w wr #[.int .i64 v, .slice A ts.length c, .int .i64 nx] v nx u (ts.take kk)))
  case atStart => exact ⟨0, _, Nat.zero_le _, by omega, rfl, HT⟩
  case round =>
    clear HT
    obtain ⟨kk, u, hkk, hgk, rfl, HR⟩ := hrel
    obtain ⟨wo, rfl⟩ : ∃ wo : World, wo = wr := ⟨_, rfl⟩
    have k1 := (blk_cell HR.out.b0 (j := 1) (v := .slice A ts.length c)) rfl
    by_cases hlt : kk < ts.length
    · have hltz : (kk : Int) < (ts.length : Int) := by omega
      have hBW := HR.out.below
      obtain ⟨ad, A2, c2, A3, c3, eA, h0, h1, h2, h3, h4, hd2, hcols, hd3, hinds⟩ := at_T70 HC.out (kk : Int) (by omega) (by omega)
      have hx : rd_T70 ts (kk : Int) = ts[kk] := rd70 _ _ hlt
      rw [hx] at h0 h1 h2 h3 h4 hd2 hcols hd3 hinds
      simp only [Int.toNat_natCast] at h0 h1 h2 h3 h4
      have H3 := Aside0.mk h3
      replace h0 := pw_cell_below hBW h0
      replace h1 := pw_cell_below hBW h1
      replace h2 := pw_cell_below hBW h2
      replace h3 := pw_cell_below hBW h3
      replace h4 := pw_cell_below hBW h4
      cases eA
      have hS := (HS.out.2 _ (List.getElem_mem hlt))
      have hT := Lib.hid (List.take_succ_eq_append_getElem hlt)
      generalize ts[kk] = t at h0 h1 h2 h3 h4 hd2 hcols hd3 hinds hS hT H3
      have HI2 := Aside0.mk hcols
      have HI3 := Aside0.mk hinds
      have hl2 := hS.1
      have hl3 := hS.2.1
      have HS2 := Aside0.mk hS.2.2
      have HX0 := Aside0.mk (heap_alloc_new wo (.cells #[.int .i64 t.f0, .string t.f1, .slice A2 t.f2.length c2, .slice A3 t.f3.length c3, .int .i64 t.f4] 70))
      clear hx hcols hinds hBW hS
      go_wp2_with (first
        | ((with_reducible refine gate_dst (N := 22) rfl ?_); refine Kd.R_lit k75 (w0 := wo) wo.heap.size 75 ?hg (N := 22) ?hd (xs := ([] : List S75)) (inner := []) (ok := fun _ => True) (okp := fun _ => True) ?hr (Reps.none _ _) (fun _ hk => hk) trivial (below_alloc (Below.refl _ _) _) (by simp) (by simp) ?_; (case hd => rfl); (case hg => rfl); (case hr => first | (go_simp; done) | (go_simp; rfl)); intro v1 w1 ho1 hb1 hg1 hn1; have HV := Aside0.mk ho1; have HB1 := Aside0.mk hb1; have HX1 := Aside0.mk (blk_grown HX0.out hg1 (by simp)); have a2 := blk_cell (j := 2) (v := .slice A2 t.f2.length c2) HX1.out rfl; clear ho1 hb1 hg1 hn1)
        | ((with_reducible refine gate_builtin (b := .append) (xs := #[.tmp 22, .tmp 24]) rfl ?_); at_builtin; refine Kd.R_append_rows k75 (w0 := wo) wo.heap.size rfl (.tmp 22) (.tmp 24) 67 75 (.agg #[(.int .i64 0), (.string ⟨#[]⟩), (.int .i64 0), (.int .i64 0), (.int .i64 0), (.int .i64 0), (.int .i64 0), (.int .u64 0), (.string ⟨#[]⟩)]) 88 rfl Tryd.underlying67 info75 rfl (by decide) (by omega) v1 [] t.f2 _ _ _ (fun _ => True) (fun _ => False) rfl rfl HV.out (Kd.C_below HI2.out (below_then HR.out.below HR.out.below.size HB1.out)) (fun _ _ h => h) (fun _ h => h.elim) (fun _ _ => trivial) HB1.out HB1.out.size (by simp only [List.length_nil]; omega) ?_; intro v2 w2 ho2 hb2 hg2 hat2; rw [List.nil_append] at ho2; have HX2 := Aside0.mk (blk_grown HX1.out hg2 (Kd.R_ne HV.out HX1.out (by decide))); obtain ⟨Ac, cc, hcv⟩ := Kd.R_slice ho2; subst hcv; have HI := Aside0.mk (CopyIt.start hb2 HX2.out ho2); have f2 := blk_frozen HX2.out 2; have f3 := blk_frozen HX2.out 3; have b2 := blk_cell (j := 2) (v := .slice A2 t.f2.length c2) HX2.out rfl; have b3 := blk_cell (j := 3) (v := .slice A3 t.f3.length c3) HX2.out rfl; clear ho2 hb2 hg2 hat2 a2))
      clear f2 f3 b2 b3 h0 h1 h2 h3 h4 k1
      try clear HX0 HX1 HX2 HB1 HV
      go_loopg [6] t.f3.length (fun gg u6 W => ∃ j : Nat, ∃ iv : Value, j ≤ t.f3.length ∧ t.f3.length - j ≤ gg ∧ u6 = .int .i64 j ∧ Aside0 (CopyIt wo W t (.slice Ac t.f2.length cc) iv (t.f3.take j)))
      case atStart => exact ⟨0, _, Nat.zero_le _, by omega, rfl, HI⟩
      case round =>
        clear HI
        obtain ⟨j, iv, hjk, hgj, rfl, HI⟩ := hrel
        have hBW := Aside0.mk (below_then HR.out.below HR.out.below.size HI.out.below)
        have k1 := (blk_cell (HR.out.step HI.out.below).b0 (j := 1) (v := .slice (some ad) ts.length c)) rfl
        have h3 := pw_cell_below hBW.out H3.out
        by_cases hjt : j < t.f3.length
        · have hjz : (j : Int) < (t.f3.length : Int) := by omega
          obtain ⟨ae, A5, c5, eA5, e0, e1, e2, e3, e4, hd5, hint⟩ := at_T98 HI3.out (j : Int) (by omega) (by omega)
          have hx : rd_T98 t.f3 (j : Int) = t.f3[j] := rd98 _ _ hjt
          rw [hx] at e0 e1 e2 e3 e4 hd5 hint
          simp only [Int.toNat_natCast] at e0 e1 e2 e3 e4
          replace e0 := pw_cell_below hBW.out e0
          replace e1 := pw_cell_below hBW.out e1
          replace e2 := pw_cell_below hBW.out e2
          replace e3 := pw_cell_below hBW.out e3
          replace e4 := pw_cell_below hBW.out e4
          cases eA5
          have hl5 := HS2.out _ (List.getElem_mem hjt)
          have hTj := Lib.hid (List.take_succ_eq_append_getElem hjt)
          generalize t.f3[j] = x at e0 e1 e2 e3 e4 hd5 hint hl5 hTj
          have HI5 := Aside0.mk hint
          have HZ0 := Aside0.mk (heap_alloc_new wr (.cells #[.int .i64 x.f0, .string x.f1, .slice A5 x.f2.length c5, .bool x.f3, .int .i64 x.f4] 98))
          have HLJ := Lib.hid (show (t.f3.take j).length = j by rw [List.length_take]; omega)
          clear hx hint
          go_wp2_with (first
            | ((with_reducible refine gate_dst (N := 48) rfl ?_); refine Kd.R_lit (Kd.int .i64) (w0 := wr) wr.heap.size 3 ?hg (N := 48) ?hd (xs := ([] : List Int)) (inner := []) (ok := fun _ => True) (okp := fun _ => True) ?hr (Reps.none _ _) (fun _ hk => hk) trivial (below_alloc (Below.refl _ _) _) (by simp) (by simp) ?_; (case hd => rfl); (case hg => rfl); (case hr => first | (go_simp; done) | (go_simp; rfl)); intro v1 w1 ho1 hb1 hg1 hn1; have HV := Aside0.mk ho1; have HB1 := Aside0.mk hb1; have HZ1 := Aside0.mk (blk_grown HZ0.out hg1 (by simp)); have a2 := blk_cell (j := 2) (v := .slice A5 x.f2.length c5) HZ1.out rfl; clear ho1 hb1 hg1 hn1)
            | ((with_reducible refine gate_builtin (b := .append) (xs := #[.tmp 48, .tmp 50]) rfl ?_); at_builtin; refine Kd.R_append_rows (Kd.int .i64) (w0 := wr) wr.heap.size rfl (.tmp 48) (.tmp 50) 40 3 (.int .i64 0) 8 rfl Tryd.underlying40 info3 rfl (by decide) (by omega) v1 [] x.f2 _ _ _ (fun _ => True) (fun _ => False) rfl rfl HV.out (Kd.C_below HI5.out (below_then hBW.out hBW.out.size HB1.out)) (fun _ _ h => h) (fun _ h => h.elim) (fun _ _ => trivial) HB1.out HB1.out.size (by simp only [List.length_nil]; omega) ?_; intro v2 w2 ho2 hb2 hg2 hat2; rw [List.nil_append] at ho2; have hz2 := blk_grown HZ1.out hg2 (Kd.R_ne HV.out HZ1.out (by decide)); obtain ⟨Ai, ci, hiv⟩ := Kd.R_slice ho2; subst hiv; have hz3 := blk_put hz2 2 (.slice Ai x.f2.length ci) rfl; have HB5 := Aside0.mk (hb2.setCell (p := ⟨wr.heap.size, 2, none⟩) (Nat.le_refl _) (.slice Ai x.f2.length ci)); have HN := Aside0.mk (HI.out.step HB5.out); have hi2 := HI.out.step hb2; have b3 := blk_cell (j := 3) (v := iv) hi2.box rfl; have HSZ := Lib.hid (show (w2.setCell ⟨wr.heap.size, 2, none⟩ (.slice Ai x.f2.length ci)).heap.size = w2.heap.size by simp); have hq1 : wo.heap.size ≠ wr.heap.size := blk_ne hi2.box hz2 (by decide); have hq2 : wr.heap.size ≠ wo.heap.size := Ne.symm hq1; have z0 := blk_cell (j := 0) (v := .int .i64 x.f0) hz2 rfl; have z1 := blk_cell (j := 1) (v := .string x.f1) hz2 rfl; have z3 := blk_cell (j := 3) (v := .bool x.f3) hz2 rfl; have z4 := blk_cell (j := 4) (v := .int .i64 x.f4) hz2 rfl; have HR5 := Aside0.mk (Kd.R_set ho2 hz2 (by decide) 2 (.slice Ai x.f2.length ci)); have f2 := blk_frozen hz2 2; have b2 := blk_cell (j := 2) (v := .slice A5 x.f2.length c5) hz2 rfl; have HZ3 := Aside0.mk hz3; clear ho2 hb2 hg2 hat2 a2 hz2 hz3 hi2)
            | ((with_reducible refine gate_builtin (b := .append) (xs := #[.tmp 54, .tmp 56]) rfl ?_); at_builtin; refine Kd.R_append k98 (w0 := wo) wo.heap.size rfl (.tmp 54) (.tmp 56) 68 98 (.agg #[(.int .i64 0), (.string ⟨#[]⟩), (.slice none 0 0), (.bool false), (.int .i64 0)]) 64 rfl Tryd.underlying68 info98 rfl (by decide) (by omega) iv (t.f3.take j) x [.int .i64 x.f0, .string x.f1, .slice Ai x.f2.length ci, .bool x.f3, .int .i64 x.f4] (fun _ => True) (fun k => wr.heap.size ≤ k) rfl ?aX ?aP ?aK (fun _ _ => trivial) HN.out.inds HN.out.below HN.out.below.size (by rw [HLJ.out]; omega) ?_; (case aX => rw [HSZ.out]; rfl); (case aP => exact k98_mkM _ _ _ x (Kd.R_lower (Kd.R_mono (Kd.R_bound HR5.out) (fun k hk => hk.2.1)) HI.out.below.size)); (case aK => exact fun k hk => ⟨trivial, fun he => by have := Kd.R_lt HI.out.inds k he.symm; omega⟩); intro v6 w6 ho6 hb6 hg6 hat6; obtain ⟨A6, c6, h6⟩ := Kd.R_slice ho6; rw [show (t.f3.take j ++ [x]).length = j + 1 by rw [List.length_append, HLJ.out]; rfl] at h6; subst h6; have hx6 := blk_grown HN.out.box hg6 (Kd.R_ne HN.out.inds HN.out.box (by decide)); have HF := Aside0.mk (HN.out.next hb6 hg6 ho6); have f6 := blk_frozen hx6 3; have b6 := blk_cell (j := 3) (v := iv) hx6 rfl; clear ho6 hb6 hg6 hat6 hx6 b2 b3 f2 z0 z1 z3 z4))
          go_roundg (t.f3.length - (j + 1))
          case measure => omega
          case rel => exact ⟨j + 1, _, by omega, by omega, by go_num, ⟨by rw [hTj.out]; exact HF.out⟩⟩
        · have hjz : ¬ (j : Int) < (t.f3.length : Int) := by omega
          have hI := HI.out
          rw [List.take_of_length_le (by omega)] at hI
          have HN := Aside0.mk hI
          have HSt := Aside0.mk (HR.out.step hI.below)
          have y0 := blk_cell (j := 1) (v := u) HSt.out.b2 rfl
          have z0 := blk_cell (j := 0) (v := .int .i64 t.f0) hI.box rfl
          have z1 := blk_cell (j := 1) (v := .string t.f1) hI.box rfl
          have z2 := blk_cell (j := 2) (v := .slice Ac t.f2.length cc) hI.box rfl
          have z3 := blk_cell (j := 3) (v := iv) hI.box rfl
          have z4 := blk_cell (j := 4) (v := .int .i64 t.f4) hI.box rfl
          have HLK := Lib.hid (show (ts.take kk).length = kk by rw [List.length_take]; omega)
          have HBA := Aside0.mk (below_then HR.out.below HR.out.below.size hI.below)
          clear hI HI
          go_wp2_with ((with_reducible refine gate_builtin (b := .append) (xs := #[.tmp 60, .tmp 62]) rfl ?_); at_builtin; refine Kd.S_append k70 (w0 := w) w.heap.size rfl (.tmp 60) (.tmp 62) 26 70 (.agg #[(.int .i64 0), (.string ⟨#[]⟩), (.slice none 0 0), (.slice none 0 0), (.int .i64 0)]) 80 rfl Tryd.underlying26 info70 rfl (by decide) (by omega) u (ts.take kk) t [.int .i64 t.f0, .string t.f1, .slice Ac t.f2.length cc, iv, .int .i64 t.f4] (fun _ => True) (fun k => wo.heap.size ≤ k) rfl rfl ?aP ?aK (fun _ _ => trivial) ?aO HBA.out HBA.out.size (by rw [HLK.out]; omega) ?_; (case aP => exact k70_mkM _ _ _ t (Kd.R_lower (Kd.R_mono (Kd.R_bound HN.out.cols) (fun k hk => hk.2.1)) HR.out.below.size) (Kd.R_lower (Kd.R_mono (Kd.R_bound HN.out.inds) (fun k hk => hk.2.1)) HR.out.below.size)); (case aK => exact fun k hk => ⟨trivial, fun he => by have := Kd.S_lt HR.out.s k he.symm; omega⟩); (case aO => exact Kd.S_below (Kd.S_mono (Kd.S_bound HR.out.s) (fun k hk => ⟨trivial, by have := hk.2.2.1; omega⟩)) HN.out.below); intro v6 w6 ho6 hb6 hg6 hat6; obtain ⟨A6, c6, h6⟩ := Kd.S_slice ho6; rw [show (ts.take kk ++ [t]).length = kk + 1 by rw [List.length_append, HLK.out]; rfl] at h6; subst h6; have hx6 := blk_grown HSt.out.b2 hg6 (Kd.S_ne HSt.out.s HSt.out.b2 (by decide)); have HF := Aside0.mk (HR.out.next HN.out.below hb6 hg6 ho6); have f6 := blk_frozen hx6 1; have b6 := blk_cell (j := 1) (v := u) hx6 rfl; clear ho6 hb6 hg6 hat6 hx6 y0 z0 z1 z2 z3 z4)
          go_roundg (ts.length - (kk + 1))
          case measure => omega
          case rel => exact ⟨kk + 1, _, by omega, by omega, by go_num, ⟨by rw [hT.out]; exact HF.out⟩⟩
    · have hltz : ¬ (kk : Int) < (ts.length : Int) := by omega
      have hS := HR.out
      rw [List.take_of_length_le (by omega)] at hS
      obtain ⟨Au, cu, hu⟩ := Kd.S_slice hS.s
      subst hu
      have y0 := blk_cell (j := 0) (v := .int .i64 v) hS.b2 rfl
      have y1 := blk_cell (j := 1) (v := .slice Au ts.length cu) hS.b2 rfl
      have y2 := blk_cell (j := 2) (v := .int .i64 nx) hS.b2 rfl
      have x0 := blk_cell (j := 0) (v := .int .i64 0) hS.b1 rfl
      have x1 := blk_cell (j := 1) (v := .slice none 0 0) hS.b1 rfl
      have x2 := blk_cell (j := 2) (v := .int .i64 0) hS.b1 rfl
      have f0 := blk_frozen hS.b1 0
      have f1 := blk_frozen hS.b1 1
      have f2 := blk_frozen hS.b1 2
      have HF := Aside0.mk hS
      clear hS
      go_wp2
      refine bodyPost_ret (v := .agg #[.int .i64 v, .slice Au ts.length cu, .int .i64 nx]) (by simp [results, Tryd.results48, go_sem, y0, y1, y2, x0, x1, x2]) rfl ⟨_, rfl, HF.out.done _ _ _⟩
end Go.Proofs.YtjgomlcdmpcoaaaDoor.H
namespace Go.Proofs.YtjgomlcdmpcoaaaDoor.H
open Go.RowKit Go.Proofs.YtjgomlcdmpcoaaaDoorW.PrintWords Go.Proofs.YtjgomlcdmpcoaaaDoorW.PrintLast Go.Proofs.YtjgomlcdmpcoaaaDoorW.PrintMore
open Go.Proofs.YtjgomlcdmpcoaaaDoor.D Go.Proofs.YtjgomlcdmpcoaaaDoor
set_option linter.unusedVariables false
set_option linter.unusedSimpArgs false
structure Tch (B : Nat) (W W' : World) : Prop where
  below : Below B W W'
  keep : ∀ (k : Nat) (cs : Array Value) (q : TypeId) (fr : Nat × Nat), W.heap[k]? = some (.cells cs q fr) → q ≠ 70 → q ≠ 75 → q ≠ 98 → W'.heap[k]? = W.heap[k]?
section
variable {B : Nat} {W W1 W2 : World}
theorem Tch.refl (B : Nat) (W : World) : Tch B W W := ⟨Below.refl _ _, fun _ _ _ _ _ _ _ _ => rfl⟩
theorem Tch.size (h : Tch B W W1) : W.heap.size ≤ W1.heap.size := h.below.size
theorem Tch.trans (h : Tch B W W1) (k : Tch B W1 W2) : Tch B W W2 :=
  ⟨h.below.trans k.below, fun j cs q fr hj h1 h2 h3 => (k.keep j cs q fr ((h.keep j cs q fr hj h1 h2 h3).trans hj) h1 h2 h3).trans (h.keep j cs q fr hj h1 h2 h3)⟩
theorem Tch.of_below (hb : Below W.heap.size W W1) (hB : B ≤ W.heap.size) : Tch B W W1 := ⟨hb.mono hB, fun k cs q fr hk _ _ _ => hb.block k (blk_lt hk)⟩
theorem Tch.of_grown {row : Option Nat} (hg : W.grownBy W1 row) (hB : B ≤ W.heap.size) (hr : ∀ k, row = some k → B ≤ k ∧ ∃ cs q, W.heap[k]? = some (.cells cs q (0, 0)) ∧ (q = 70 ∨ q = 75 ∨ q = 98)) : Tch B W W1 :=
  ⟨⟨hg.os, hg.tape, hg.output, hg.size, fun k hk => hg.block k (by omega) (fun e => by have := (hr k e.symm).1; omega)⟩, fun k cs q fr hk h1 h2 h3 => hg.block k (blk_lt hk) (fun e => by
    obtain ⟨_, cs', q', hk', hq⟩ := hr k e.symm
    rw [hk] at hk'
    injection hk' with e1
    injection e1 with _ e1 _
    rcases hq with hq | hq | hq
    · exact h1 (e1.trans hq)
    · exact h2 (e1.trans hq)
    · exact h3 (e1.trans hq))⟩
theorem Tch.of_set {g j t : Nat} {cs : Array Value} (hx : W.heap[g]? = some (.cells cs t (0, 0))) (ht : t = 70 ∨ t = 75 ∨ t = 98) (hB : B ≤ g) (u : Value) : Tch B W (W.setCell ⟨g, j, none⟩ u) :=
  ⟨(Below.refl _ _).setCell hB _, fun k cs' q fr hk h1 h2 h3 => Below.heap_setCell _ _ _ _ (fun e => by
    have e' : k = g := e
    subst e'
    rw [hx] at hk
    injection hk with e1
    injection e1 with _ e1 _
    rcases ht with ht | ht | ht
    · exact h1 (e1.symm.trans ht)
    · exact h2 (e1.symm.trans ht)
    · exact h3 (e1.symm.trans ht))⟩
theorem Tch.box (h : Tch B W W1) {k : Nat} {cs : Array Value} {q : TypeId} (hk : W.heap[k]? = some (.cells cs q (0, 0))) (h1 : q ≠ 70 := by decide) (h2 : q ≠ 75 := by decide) (h3 : q ≠ 98 := by decide) : W1.heap[k]? = some (.cells cs q (0, 0)) := (h.keep k cs q _ hk h1 h2 h3).trans hk
end
structure Lent (W : World) (B g n cap : Nat) (ts : List S70) (i : Nat) (oki : Nat → Prop) (t : S70) (cv iv : Value) : Prop where
  hole : Kd.H k70 70 W B (fun _ => True) (.slice (some ⟨g, 0, none⟩) n cap) ts (i : Int) oki [.int .i64 t.f0, .string t.f1, cv, iv, .int .i64 t.f4]
  lt : i < n
  cols : k75.R 75 W B oki cv t.f2
  inds : k98.R 98 W B oki iv t.f3
  fresh : ∀ k, W.heap.size ≤ k → oki k
section
variable {W W1 : World} {B g n cap : Nat} {ts : List S70} {i : Nat} {oki : Nat → Prop} {t t' : S70} {cv iv cv1 iv1 : Value}
theorem lend (h : Kd.S k70 70 W B (fun _ => True) (.slice (some ⟨g, 0, none⟩) n cap) ts) (hi : i < ts.length) : ∃ oki cv iv, Lent W B g n cap ts i oki ts[i] cv iv := by
  have hn := (Kd.S_reads' h).1
  obtain ⟨oki, c, hcl, hM, hcc, hoki, hH⟩ := Kd.S_lend h z70 (i : Int) (by omega) (by omega)
  rw [show ts.getD ((i : Int).toNat) z70 = ts[i] by simp [List.getD, hi]] at hM
  obtain ⟨cv, iv, rfl, h1, h2⟩ := k70_openM hM
  exact ⟨_, cv, iv, Kd.H_widen hH, by omega, Kd.R_mono h1 (fun k hk => .inl hk), Kd.R_mono h2 (fun k hk => .inl hk), fun k hk => .inr ⟨trivial, hk⟩⟩
theorem Lent.back (h : Lent W B g n cap ts i oki t cv iv) : Kd.S k70 70 W B (fun _ => True) (.slice (some ⟨g, 0, none⟩) n cap) (ts.set i t) := by
  have := Kd.H_back h.hole (k70_mkM W B oki t h.cols h.inds) (fun _ hk => hk)
  exact this
theorem Lent.step (h : Lent W B g n cap ts i oki t cv iv) (hb : Below W.heap.size W W1) : Lent W1 B g n cap ts i oki t cv iv :=
  ⟨Kd.H_below h.hole hb, h.lt, Kd.R_below h.cols hb, Kd.R_below h.inds hb, fun k hk => h.fresh k (Nat.le_trans hb.size hk)⟩
theorem Lent.blk (h : Lent W B g n cap ts i oki t cv iv) : ∃ cs, W.heap[g]? = some (.cells cs 70 (0, 0)) := by
  obtain ⟨_, f, hR⟩ := h.hole
  exact Kd.R_typed hR g (by simp [Value.ownBlock])
theorem Lent.base (h : Lent W B g n cap ts i oki t cv iv) : B ≤ g := by
  obtain ⟨_, f, hR⟩ := h.hole
  exact Kd.R_base hR g (by simp [Value.ownBlock])
theorem Lent.frozen (h : Lent W B g n cap ts i oki t cv iv) (j : Nat) : W.frozen? ⟨g, j, none⟩ = false := by
  obtain ⟨cs, hx⟩ := h.blk
  exact blk_frozen hx j
theorem Lent.cell (h : Lent W B g n cap ts i oki t cv iv) (j : Nat) {u : Value} (hu : [Value.int .i64 t.f0, .string t.f1, cv, iv, .int .i64 t.f4][j]? = some u) : W.cell? ⟨g, i * 5 + j, none⟩ = some u := by
  obtain ⟨rows, _, _, _, _, hcc, _⟩ := Kd.H_raw h.hole (by omega) (by have := h.lt; omega)
  exact hcc j u hu
theorem Lent.grown (h : Lent W B g n cap ts i oki t cv iv) {row : Option Nat} (hg : W.grownBy W1 row) (hrow : ∀ k, row = some k → oki k) :
    Kd.H k70 70 W1 B (fun _ => True) (.slice (some ⟨g, 0, none⟩) n cap) ts (i : Int) oki [.int .i64 t.f0, .string t.f1, cv, iv, .int .i64 t.f4] := Kd.H_grown h.hole hg hrow
theorem hole_set {c c' : List Value} (h : Kd.H k70 70 W B (fun _ => True) (.slice (some ⟨g, 0, none⟩) n cap) ts (i : Int) oki c) (hi : i < n) (j : Nat) (u : Value) (hj : j < 5) (hu : u.oneCell' = true) (hc : c.take j ++ [u] ++ c.drop (j + 1) = c') :
    Kd.H k70 70 (W.setCell ⟨g, i * 5 + j, none⟩ u) B (fun _ => True) (.slice (some ⟨g, 0, none⟩) n cap) ts (i : Int) oki c' := by
  have := (Kd.H_seg h (by omega) (by omega) (seg := [u]) (j := j) (by show j + 1 ≤ 5; omega) (fun q hq => by rw [List.mem_singleton.1 hq]; exact hu)).1
  rw [← hc]
  exact this
theorem Lent.oki_ne (h : Lent W B g n cap ts i oki t cv iv) : ∀ k, oki k → k ≠ g := by
  obtain ⟨ho, f, hR⟩ := h.hole
  intro k hk he
  subst he
  exact (hR.1 k (by simp [Value.ownBlock])).2 hk
theorem Lent.setN (h : Lent W B g n cap ts i oki t cv iv) (x : Int) (ht : (⟨t.f0, t.f1, t.f2, t.f3, x⟩ : S70) = t') : Lent (W.setCell ⟨g, i * 5 + 4, none⟩ (.int .i64 x)) B g n cap ts i oki t' cv iv := by
  subst ht
  obtain ⟨cs, hx⟩ := h.blk
  exact ⟨hole_set h.hole h.lt 4 _ (by omega) rfl rfl, h.lt, Kd.R_set h.cols hx (by decide) _ _, Kd.R_set h.inds hx (by decide) _ _, fun k hk => h.fresh k (by simpa [World.setCell] using hk)⟩
theorem Lent.setI (h : Lent W B g n cap ts i oki t cv iv) {xs : List S98} (hg : W.grownBy W1 iv.ownBlock) (hi : k98.R 98 W1 B oki iv1 xs) (ht : (⟨t.f0, t.f1, t.f2, xs, t.f4⟩ : S70) = t') :
    Lent (W1.setCell ⟨g, i * 5 + 3, none⟩ iv1) B g n cap ts i oki t' cv iv1 := by
  subst ht
  have h1 := h.grown hg (fun k hk => h.inds.1 k hk)
  obtain ⟨cs, hx⟩ := h.blk
  have hx1 := blk_grown hx hg (fun e => h.oki_ne g (h.inds.1 g e.symm) rfl)
  have hc : k75.R 75 W1 B oki cv t.f2 := Kd.R_over' h.cols (Kd.R_typed h.inds) (by decide) hg
  exact ⟨hole_set h1 h.lt 3 _ (by omega) (Kd.R_val hi).2 rfl, h.lt, Kd.R_set hc hx1 (by decide) _ _, Kd.R_set hi hx1 (by decide) _ _, fun k hk => h.fresh k (Nat.le_trans hg.size (by simpa [World.setCell] using hk))⟩
theorem Lent.setC (h : Lent W B g n cap ts i oki t cv iv) {xs : List S75} (hg : W.grownBy W1 cv.ownBlock) (hi : k75.R 75 W1 B oki cv1 xs) (ht : (⟨t.f0, t.f1, xs, t.f3, t.f4⟩ : S70) = t') :
    Lent (W1.setCell ⟨g, i * 5 + 2, none⟩ cv1) B g n cap ts i oki t' cv1 iv := by
  subst ht
  have h1 := h.grown hg (fun k hk => h.cols.1 k hk)
  obtain ⟨cs, hx⟩ := h.blk
  have hx1 := blk_grown hx hg (fun e => h.oki_ne g (h.cols.1 g e.symm) rfl)
  have hc : k98.R 98 W1 B oki iv t.f3 := Kd.R_over' h.inds (Kd.R_typed h.cols) (by decide) hg
  exact ⟨hole_set h1 h.lt 2 _ (by omega) (Kd.R_val hi).2 rfl, h.lt, Kd.R_set hi hx1 (by decide) _ _, Kd.R_set hc hx1 (by decide) _ _, fun k hk => h.fresh k (Nat.le_trans hg.size (by simpa [World.setCell] using hk))⟩
end
section
variable {P : Program} {ops : Array Oper} {o : Oper} {a : Act} {W : World} {K : Act → World → Prop} {Q : Exit → Act → World → Prop} {E : Prop} {α : Type}
theorem step_R (d : Kd α) (hgd : o.guard = none) (s x : Operand) (t e : TypeId) (z : Value) (bytes : Nat) (ho : o.op = .call { callee := .builtin .append, args := #[s, x], argTypes := #[t, t] })
    (ht : P.underlying t = some (.slice e)) (hinfo : (P.info? e).map (fun i => (i.zero, i.size, i.bytes)) = some (some z, d.sz, bytes)) (hz : z.cells.size = d.sz) (hs0 : 0 < d.sz) (hb0 : 0 < bytes)
    (base : Nat) (v : Value) (xs : List α) (p : α) (cs : List Value) (ok okp : Nat → Prop) (hs : a.eval s = v) (HO : d.R e W base ok v xs) (ad : Addr) (hx : a.eval x = .slice (some ad) 1 1) (hnews : ∀ j u, cs[j]? = some u → W.cell? (ad.add j) = some u)
    (hp : d.M W base okp p cs) (hokp : ∀ k, okp k → ok k ∧ some k ≠ v.ownBlock) (hfresh : ∀ k, W.heap.size ≤ k → ok k) (hbase : base ≤ W.heap.size) (hl : (xs.length + 1) * bytes ≤ 140737488355328)
    (h : ∀ A c w1, d.R e w1 base ok (.slice A (xs.length + 1) c) (xs ++ [p]) → W.grownBy w1 v.ownBlock → K (a.put o.dst (.slice A (xs.length + 1) c)) w1) : if Region.wanted o (yielded ops a.tmps) = true then Oper.wp P o a W K Q else E := by
  obtain ⟨i0, hi, hzz⟩ := Option.map_eq_some_iff.1 hinfo
  simp only [Prod.mk.injEq] at hzz
  obtain ⟨hz0, hz1, hz2⟩ := hzz
  obtain ⟨h0, inner, hown, hr⟩ := HO
  have hlen : xs.length + 1 ≤ 140737488355328 := Nat.le_trans (Nat.le_mul_of_pos_right _ hb0) hl
  refine step_append_lies W hgd s x t ho base e i0 z d.sz bytes ht hi hz0 hz1 hz2 hz hs0 v xs.length inner hs hown ad 1 1 cs hx (by rw [Nat.one_mul]; exact d.K_len (d.K_of_M hp)) hnews (d.K_one (d.K_of_M hp)) (by decide) (by unfold maxLen; omega) hl hbase W.heap.size rfl ?_
  intro g cap w1 hown1 hg1 hat _
  refine h (some ⟨g, 0, none⟩) cap w1 (Kd.R_appended h0 hr hp hokp hfresh hown1 hg1 ?_) hg1
  rcases hat with hat | hat
  · exact .inl (by rw [hat]; simp [Value.ownBlock])
  · exact .inr ⟨g, by simp [Value.ownBlock], by omega⟩
end
theorem at_str {w : World} {A : Option Addr} {n : Nat} {l : List ByteArray} (h : Kd.string.C w A n l) (j : Nat) (hj : j < l.length) : ∃ ad, A = some ad ∧ w.cell? (ad.add j) = some (.string l[j]) := by
  have hn := h.1
  obtain ⟨ad, e, hc⟩ := h.2.2 (by omega)
  obtain ⟨c, _, hK, hcell⟩ := hc j _ (List.getElem?_eq_getElem hj)
  refine ⟨ad, e, ?_⟩
  have h1 : c = [.string l[j]] := hK
  have := hcell 0 (.string l[j]) (by rw [h1]; rfl)
  rwa [show Kd.string.sz = 1 from rfl, Nat.mul_one, Nat.add_zero] at this
theorem at_int {w : World} {A : Option Addr} {n : Nat} {l : List Int} (h : (Kd.int .i64).C w A n l) (j : Nat) (hj : j < l.length) : ∃ ad, A = some ad ∧ w.cell? (ad.add j) = some (.int .i64 l[j]) := by
  have hn := h.1
  obtain ⟨ad, e, hc⟩ := h.2.2 (by omega)
  obtain ⟨c, _, hK, hcell⟩ := hc j _ (List.getElem?_eq_getElem hj)
  refine ⟨ad, e, ?_⟩
  have h1 : c = [.int .i64 l[j]] := hK
  have := hcell 0 (.int .i64 l[j]) (by rw [h1]; rfl)
  rwa [show (Kd.int .i64).sz = 1 from rfl, Nat.mul_one, Nat.add_zero] at this
end Go.Proofs.YtjgomlcdmpcoaaaDoor.H
namespace Go.Proofs.YtjgomlcdmpcoaaaDoor.H
open Go.RowKit Go.Proofs.YtjgomlcdmpcoaaaDoorW.PrintWords Go.Proofs.YtjgomlcdmpcoaaaDoorW.PrintLast Go.Proofs.YtjgomlcdmpcoaaaDoorW.PrintMore
open Go.Proofs.YtjgomlcdmpcoaaaDoor.D Go.Proofs.YtjgomlcdmpcoaaaDoor
set_option linter.unusedVariables false
set_option linter.unusedSimpArgs false
theorem nil_C {α : Type} (d : Kd α) (w : World) : Kd.C d w none 0 [] := ⟨rfl, Nat.zero_le _, fun h => absurd h (by omega)⟩
end Go.Proofs.YtjgomlcdmpcoaaaDoor.H

namespace Go.Proofs.YtjgomlcdmpcoaaaDoor.H
open Go.RowKit Go.Proofs.YtjgomlcdmpcoaaaDoorW.PrintWords Go.Proofs.YtjgomlcdmpcoaaaDoorW.PrintLast Go.Proofs.YtjgomlcdmpcoaaaDoorW.PrintMore
open Go.Proofs.YtjgomlcdmpcoaaaDoor.D Go.Proofs.YtjgomlcdmpcoaaaDoor
set_option linter.unusedVariables false
set_option linter.unusedSimpArgs false
def StmtOk (s : S45) : Prop := s.f3.length ≤ 100 ∧ s.f4.length ≤ 100 ∧ s.f9.length ≤ 100 ∧ s.f2.size ≤ maxLen ∧ s.f1.size ≤ maxLen ∧ ∀ x ∈ s.f4, ValWf x
structure UpdSt (w0 W0 W : World) (g n cap : Nat) (ts : List S70) (i : Nat) (oki : Nat → Prop) (t : S70) (cv iv : Value) : Prop where
  lent : Lent W w0.heap.size g n cap ts i oki t cv iv
  tch : Tch w0.heap.size W0 W
  base : w0.heap.size ≤ W0.heap.size
theorem UpdSt.step {w0 W0 W W1 : World} {g n cap : Nat} {ts : List S70} {i : Nat} {oki : Nat → Prop} {t : S70} {cv iv : Value} (h : UpdSt w0 W0 W g n cap ts i oki t cv iv) (hb : Below W.heap.size W W1) : UpdSt w0 W0 W1 g n cap ts i oki t cv iv :=
  ⟨h.lent.step hb, h.tch.trans (Tch.of_below hb (Nat.le_trans h.base h.tch.size)), h.base⟩
theorem UpdSt.done {w0 W0 W : World} {g n cap : Nat} {ts : List S70} {i : Nat} {oki : Nat → Prop} {t : S70} {cv iv : Value} (h : UpdSt w0 W0 W g n cap ts i oki t cv iv) : Kd.S k70 70 W w0.heap.size (fun _ => True) (.slice (some ⟨g, 0, none⟩) n cap) (ts.set i t) ∧ Tch w0.heap.size W0 W := ⟨h.lent.back, h.tch⟩
section
variable {w0 W0 W W1 : World} {g n cap : Nat} {ts : List S70} {i : Nat} {oki : Nat → Prop} {t t' : S70} {cv iv cv1 iv1 : Value}
theorem UpdSt.setN (h : UpdSt w0 W0 W g n cap ts i oki t cv iv) (x : Int) (ht : (⟨t.f0, t.f1, t.f2, t.f3, x⟩ : S70) = t') : UpdSt w0 W0 (W.setCell ⟨g, i * 5 + 4, none⟩ (.int .i64 x)) g n cap ts i oki t' cv iv := by
  obtain ⟨cs, hx⟩ := h.lent.blk
  exact ⟨h.lent.setN x ht, h.tch.trans (Tch.of_set hx (.inl rfl) h.lent.base _), h.base⟩
theorem UpdSt.setI (h : UpdSt w0 W0 W g n cap ts i oki t cv iv) {xs : List S98} (hg : W.grownBy W1 iv.ownBlock) (hi : k98.R 98 W1 w0.heap.size oki iv1 xs) (ht : (⟨t.f0, t.f1, t.f2, xs, t.f4⟩ : S70) = t') :
    UpdSt w0 W0 (W1.setCell ⟨g, i * 5 + 3, none⟩ iv1) g n cap ts i oki t' cv iv1 := by
  have h1 : Tch w0.heap.size W W1 := Tch.of_grown hg (Nat.le_trans h.base h.tch.size) (fun k hk => ⟨Kd.R_base h.lent.inds k hk, by obtain ⟨c, hc⟩ := Kd.R_typed h.lent.inds k hk; exact ⟨c, 98, hc, .inr (.inr rfl)⟩⟩)
  obtain ⟨cs, hx⟩ := h.lent.blk
  have hx1 := blk_grown hx hg (fun e => h.lent.oki_ne g (h.lent.inds.1 g e.symm) rfl)
  exact ⟨h.lent.setI hg hi ht, (h.tch.trans h1).trans (Tch.of_set hx1 (.inl rfl) h.lent.base _), h.base⟩
theorem UpdSt.setC (h : UpdSt w0 W0 W g n cap ts i oki t cv iv) {xs : List S75} (hg : W.grownBy W1 cv.ownBlock) (hi : k75.R 75 W1 w0.heap.size oki cv1 xs) (ht : (⟨t.f0, t.f1, xs, t.f3, t.f4⟩ : S70) = t') :
    UpdSt w0 W0 (W1.setCell ⟨g, i * 5 + 2, none⟩ cv1) g n cap ts i oki t' cv1 iv := by
  have h1 : Tch w0.heap.size W W1 := Tch.of_grown hg (Nat.le_trans h.base h.tch.size) (fun k hk => ⟨Kd.R_base h.lent.cols k hk, by obtain ⟨c, hc⟩ := Kd.R_typed h.lent.cols k hk; exact ⟨c, 75, hc, .inr (.inl rfl)⟩⟩)
  obtain ⟨cs, hx⟩ := h.lent.blk
  have hx1 := blk_grown hx hg (fun e => h.lent.oki_ne g (h.lent.cols.1 g e.symm) rfl)
  exact ⟨h.lent.setC hg hi ht, (h.tch.trans h1).trans (Tch.of_set hx1 (.inl rfl) h.lent.base _), h.base⟩
end
theorem cell_same {w W : World} {a : Addr} (h : w.heap[a.block]? = W.heap[a.block]?) : w.cell? a = W.cell? a := by simp [World.cell?, h]
theorem frozen_same {w W : World} {a : Addr} (h : w.heap[a.block]? = W.heap[a.block]?) : w.frozen? a = W.frozen? a := by simp [World.frozen?, h]
end Go.Proofs.YtjgomlcdmpcoaaaDoor.H
namespace Go.Proofs.YtjgomlcdmpcoaaaDoor.H
open Go.RowKit Go.Proofs.YtjgomlcdmpcoaaaDoorW.PrintWords Go.Proofs.YtjgomlcdmpcoaaaDoorW.PrintLast Go.Proofs.YtjgomlcdmpcoaaaDoorW.PrintMore
open Go.Proofs.YtjgomlcdmpcoaaaDoor.D Go.Proofs.YtjgomlcdmpcoaaaDoor
set_option linter.unusedVariables false
section
open Go.ChangeShapes
variable {H : Type} {enc : TypeId × Value → H} {P : Program} {w : World} {base : Nat} {spare : Nat → Bool} {held : Bool}
theorem trodAll_five {t0 t1 t2 t3 t4 : TypeId} {args : Array Value} {ds : List (DataW H)} {ps : List MemPlace} (h : DataW.TrodAll enc P w base spare held [t0, t1, t2, t3, t4] args.toList ds ps) :
    ∃ v0 v1 v2 v3 v4 d0 d1 d2 d3 d4 p0 p1 p2 p3 p4, args = #[v0, v1, v2, v3, v4] ∧ ds = [d0, d1, d2, d3, d4] ∧ ps = p0 ++ p1 ++ p2 ++ p3 ++ p4 ∧ DataW.Trod enc P w base spare held t0 v0 d0 p0 ∧ DataW.Trod enc P w base spare held t1 v1 d1 p1 ∧ DataW.Trod enc P w base spare held t2 v2 d2 p2 ∧ DataW.Trod enc P w base spare held t3 v3 d3 p3 ∧ DataW.Trod enc P w base spare held t4 v4 d4 p4 := by
  obtain ⟨v0, vs0, d0, ds0, p0, q0, hargs, rfl, rfl, h0, r0⟩ := trodAll_cons h
  obtain ⟨v1, vs1, d1, ds1, p1, q1, rfl, rfl, rfl, h1, r1⟩ := trodAll_cons r0
  obtain ⟨v2, vs2, d2, ds2, p2, q2, rfl, rfl, rfl, h2, r2⟩ := trodAll_cons r1
  obtain ⟨v3, vs3, d3, ds3, p3, q3, rfl, rfl, rfl, h3, r3⟩ := trodAll_cons r2
  obtain ⟨v4, vs4, d4, ds4, p4, q4, rfl, rfl, rfl, h4, r4⟩ := trodAll_cons r3
  obtain ⟨rfl, rfl, rfl⟩ := trodAll_nil r4
  exact ⟨v0, v1, v2, v3, v4, d0, d1, d2, d3, d4, p0, p1, p2, p3, p4, by cases args; simp_all, rfl, by simp, h0, h1, h2, h3, h4⟩
theorem trodAll_mk5 {t0 t1 t2 t3 t4 : TypeId} {v0 v1 v2 v3 v4 : Value} {d0 d1 d2 d3 d4 : DataW H} {p0 p1 p2 p3 p4 : List MemPlace} (h0 : DataW.Trod enc P w base spare held t0 v0 d0 p0) (h1 : DataW.Trod enc P w base spare held t1 v1 d1 p1) (h2 : DataW.Trod enc P w base spare held t2 v2 d2 p2) (h3 : DataW.Trod enc P w base spare held t3 v3 d3 p3) (h4 : DataW.Trod enc P w base spare held t4 v4 d4 p4) :
    DataW.TrodAll enc P w base spare held [t0, t1, t2, t3, t4] [v0, v1, v2, v3, v4] [d0, d1, d2, d3, d4] (p0 ++ (p1 ++ (p2 ++ (p3 ++ p4)))) := ⟨p0, _, h0, trodAll_mk4 h1 h2 h3 h4, rfl⟩
end
end Go.Proofs.YtjgomlcdmpcoaaaDoor.H
namespace Go.Proofs.YtjgomlcdmpcoaaaDoor.H
open Go.RowKit Go.Proofs.YtjgomlcdmpcoaaaDoorW.PrintWords Go.Proofs.YtjgomlcdmpcoaaaDoorW.PrintLast Go.Proofs.YtjgomlcdmpcoaaaDoorW.PrintMore
open Go.Proofs.YtjgomlcdmpcoaaaDoor.D Go.Proofs.YtjgomlcdmpcoaaaDoor
set_option linter.unusedVariables false
set_option linter.unusedSimpArgs false
set_option maxHeartbeats 4000000 in
set_option maxRecDepth 100000 in
theorem idx70 (g : Nat) (lb : Array Value) (eg : ∀ args w, (callFunc g args).run Tryd.prog w = .ok (.enter g args) w) (p : S70 → Bool) (A : Option Addr) (c : Nat) (xs : List S70) (w : World)
    (hA : Kd.C k70 w A xs.length xs) (hp : Pred k70 g lb p w) :
    Calls Tryd.prog 105 #[.slice A xs.length c, .func (.func g) #[] lb] w fun e w' => e = .returned (.int .i64 (idxL p xs 0)) ∧ Below w.heap.size w w' := by
  have HA := Lib.hid hA
  have hbig := hA.2.1
  have HP := Lib.hid hp
  have HE := Lib.hid eg
  clear hA hp eg
  go_enter Tryd.func105, Tryd.ntmps105
  go_wp2
  go_loopg [5, 8] xs.length (fun gg _ s8 wr => ∃ kk : Nat, kk ≤ xs.length ∧ xs.length - kk ≤ gg ∧ s8 = .int .i64 kk ∧ Aside0 (Below w.heap.size w wr) ∧ Aside0 (idxL p xs 0 = idxL p (xs.drop kk) kk))
  case atStart => exact ⟨0, Nat.zero_le _, by omega, rfl, ⟨Below.refl _ w⟩, ⟨rfl⟩⟩
  case round =>
    obtain ⟨kk, hkk, hg, rfl, BW, hI⟩ := hrel
    by_cases hlt : kk < xs.length
    · have hltz : (kk : Int) < (xs.length : Int) := by omega
      have hd : xs.drop kk = xs[kk] :: xs.drop (kk + 1) := List.drop_eq_getElem_cons hlt
      have hC := Kd.C_below HA.out BW.out
      obtain ⟨ad, A2, c2, A3, c3, eA, h0, h1, h2, h3, h4, l2, g2, l3, g3⟩ := at_T70 hC (kk : Int) (by omega) (by omega)
      have hx : rd_T70 xs (kk : Int) = xs[kk] := by unfold rd_T70; simp [List.getD, hlt]
      rw [hx] at h0 h1 h2 h3 h4 l2 g2 l3 g3
      simp only [Int.toNat_natCast] at h0 h1 h2 h3 h4
      have hcall := HP.out wr xs[kk] _ BW.out (k70_mk _ _ l2 g2 l3 g3)
      generalize xs[kk] = x at hd hcall h0 h1 h2 h3 h4 l2 g2 l3 g3
      rw [hd] at hI
      cases eA
      clear g2 g3
      have HI := Lib.hid hI
      clear hI hd hx
      cases hq : p x with
      | true =>
        rw [hq] at hcall
        have HQ := Lib.hid hq
        clear hq
        have HC := Lib.hid hcall
        clear hcall
        go_wp2_with fail
        rw [HE.out, Oper.upon_enter]
        refine HC.out.mono ?_
        rintro e w' ⟨rfl, hb'⟩
        go_wp2
        go_ret
        refine ⟨?_, hb'⟩
        rw [HI.out.out]
        simp [idxL, HQ.out]
      | false =>
        rw [hq] at hcall
        have HQ := Lib.hid hq
        clear hq
        have HC := Lib.hid hcall
        clear hcall
        go_wp2_with fail
        rw [HE.out, Oper.upon_enter]
        refine HC.out.mono ?_
        rintro e w' ⟨rfl, hb'⟩
        go_wp2
        go_roundg (xs.length - (kk + 1))
        case measure => omega
        case rel =>
          refine ⟨kk + 1, by omega, by omega, by go_num, ⟨hb'⟩, ⟨?_⟩⟩
          rw [HI.out.out]
          simp [idxL, HQ.out]
    · have hltz : ¬ (kk : Int) < (xs.length : Int) := by omega
      have hd : xs.drop kk = [] := List.drop_eq_nil_of_le (by omega)
      rw [hd] at hI
      have HI := Lib.hid hI
      clear hI hd
      go_wp2
      go_ret
      refine ⟨?_, BW.out⟩
      rw [HI.out.out]
      rfl
set_option maxHeartbeats 4000000 in
set_option maxRecDepth 100000 in
theorem idx98 (g : Nat) (lb : Array Value) (eg : ∀ args w, (callFunc g args).run Tryd.prog w = .ok (.enter g args) w) (p : S98 → Bool) (A : Option Addr) (c : Nat) (xs : List S98) (w : World)
    (hA : Kd.C k98 w A xs.length xs) (hp : Pred k98 g lb p w) :
    Calls Tryd.prog 168 #[.slice A xs.length c, .func (.func g) #[] lb] w fun e w' => e = .returned (.int .i64 (idxL p xs 0)) ∧ Below w.heap.size w w' := by
  have HA := Lib.hid hA
  have hbig := hA.2.1
  have HP := Lib.hid hp
  have HE := Lib.hid eg
  clear hA hp eg
  go_enter Tryd.func168, Tryd.ntmps168
  go_wp2
  go_loopg [5, 8] xs.length (fun gg _ s8 wr => ∃ kk : Nat, kk ≤ xs.length ∧ xs.length - kk ≤ gg ∧ s8 = .int .i64 kk ∧ Aside0 (Below w.heap.size w wr) ∧ Aside0 (idxL p xs 0 = idxL p (xs.drop kk) kk))
  case atStart => exact ⟨0, Nat.zero_le _, by omega, rfl, ⟨Below.refl _ w⟩, ⟨rfl⟩⟩
  case round =>
    obtain ⟨kk, hkk, hg, rfl, BW, hI⟩ := hrel
    by_cases hlt : kk < xs.length
    · have hltz : (kk : Int) < (xs.length : Int) := by omega
      have hd : xs.drop kk = xs[kk] :: xs.drop (kk + 1) := List.drop_eq_getElem_cons hlt
      have hC := Kd.C_below HA.out BW.out
      obtain ⟨ad, A2, c2, eA, h0, h1, h2, h3, h4, l2, g2⟩ := at_T98 hC (kk : Int) (by omega) (by omega)
      have hx : rd_T98 xs (kk : Int) = xs[kk] := by unfold rd_T98; simp [List.getD, hlt]
      rw [hx] at h0 h1 h2 h3 h4 l2 g2
      simp only [Int.toNat_natCast] at h0 h1 h2 h3 h4
      have hcall := HP.out wr xs[kk] _ BW.out (k98_mk _ _ l2 g2)
      generalize xs[kk] = x at hd hcall h0 h1 h2 h3 h4 l2 g2
      rw [hd] at hI
      cases eA
      clear g2
      have HI := Lib.hid hI
      clear hI hd hx
      cases hq : p x with
      | true =>
        rw [hq] at hcall
        have HQ := Lib.hid hq
        clear hq
        have HC := Lib.hid hcall
        clear hcall
        go_wp2_with fail
        rw [HE.out, Oper.upon_enter]
        refine HC.out.mono ?_
        rintro e w' ⟨rfl, hb'⟩
        go_wp2
        go_ret
        refine ⟨?_, hb'⟩
        rw [HI.out.out]
        simp [idxL, HQ.out]
      | false =>
        rw [hq] at hcall
        have HQ := Lib.hid hq
        clear hq
        have HC := Lib.hid hcall
        clear hcall
        go_wp2_with fail
        rw [HE.out, Oper.upon_enter]
        refine HC.out.mono ?_
        rintro e w' ⟨rfl, hb'⟩
        go_wp2
        go_roundg (xs.length - (kk + 1))
        case measure => omega
        case rel =>
          refine ⟨kk + 1, by omega, by omega, by go_num, ⟨hb'⟩, ⟨?_⟩⟩
          rw [HI.out.out]
          simp [idxL, HQ.out]
    · have hltz : ¬ (kk : Int) < (xs.length : Int) := by omega
      have hd : xs.drop kk = [] := List.drop_eq_nil_of_le (by omega)
      rw [hd] at hI
      have HI := Lib.hid hI
      clear hI hd
      go_wp2
      go_ret
      refine ⟨?_, BW.out⟩
      rw [HI.out.out]
      rfl
set_option maxHeartbeats 1000000 in
theorem pred149 (id : Int) (B : Nat) (w : World) (hB : B < w.heap.size) (hc : w.cell? ⟨B, 0, none⟩ = some (.int .i64 id)) : Pred k70 149 #[.pointer (some ⟨B, 0, none⟩)] (fun c => c.f0 == id) w := by
  intro W x cs hb hK
  obtain ⟨A2, c2, A3, c3, rfl, l2, g2, l3, g3⟩ := k70_open hK
  have hc' := (hb.cell (p := ⟨B, 0, none⟩) hB).trans hc
  have hl : B < W.heap.size := Nat.lt_of_lt_of_le hB hb.size
  show Calls Tryd.prog 149 #[.agg #[.int .i64 x.f0, .string x.f1, .slice A2 x.f2.length c2, .slice A3 x.f3.length c3, .int .i64 x.f4], .pointer (some ⟨B, 0, none⟩)] W _
  have HB := Aside0.mk hb
  clear hb hc hK
  go_enter Tryd.func149, Tryd.ntmps149
  go_wp2
  go_ret
  exact ⟨rfl, below_then HB.out HB.out.size (below_alloc (Below.refl _ _) _)⟩
set_option maxHeartbeats 1000000 in
theorem pred174 (id : Int) (B : Nat) (w : World) (hB : B < w.heap.size) (hc : w.cell? ⟨B, 0, none⟩ = some (.int .i64 id)) : Pred k98 174 #[.pointer (some ⟨B, 0, none⟩)] (fun c => c.f0 == id) w := by
  intro W x cs hb hK
  obtain ⟨A2, c2, rfl, l2, g2⟩ := k98_open hK
  have hc' := (hb.cell (p := ⟨B, 0, none⟩) hB).trans hc
  have hl : B < W.heap.size := Nat.lt_of_lt_of_le hB hb.size
  show Calls Tryd.prog 174 #[.agg #[.int .i64 x.f0, .string x.f1, .slice A2 x.f2.length c2, .bool x.f3, .int .i64 x.f4], .pointer (some ⟨B, 0, none⟩)] W _
  have HB := Aside0.mk hb
  clear hb hc hK
  go_enter Tryd.func174, Tryd.ntmps174
  go_wp2
  go_ret
  exact ⟨rfl, below_then HB.out HB.out.size (below_alloc (Below.refl _ _) _)⟩
set_option maxHeartbeats 1000000 in
theorem pred180 (id : Int) (B : Nat) (w : World) (hB : B < w.heap.size) (hc : w.cell? ⟨B, 0, none⟩ = some (.int .i64 id)) : Pred k75 180 #[.pointer (some ⟨B, 0, none⟩)] (fun c => c.f0 == id) w := by
  intro W x cs hb hK
  obtain rfl := k75_open hK
  have hc' := (hb.cell (p := ⟨B, 0, none⟩) hB).trans hc
  have hl : B < W.heap.size := Nat.lt_of_lt_of_le hB hb.size
  show Calls Tryd.prog 180 #[.agg #[.int .i64 x.f0, .string x.f1, .int .i64 x.f2, .int .i64 x.f3, .int .i64 x.f4, .int .i64 x.f5.f0, .int .i64 x.f5.f1, .int .u64 x.f5.f2, .string x.f5.f3], .pointer (some ⟨B, 0, none⟩)] W _
  have HB := Aside0.mk hb
  clear hb hc hK
  go_enter Tryd.func180, Tryd.ntmps180
  go_wp2
  go_ret
  exact ⟨rfl, below_then HB.out HB.out.size (below_alloc (Below.refl _ _) _)⟩
theorem idxL_same {α : Type} (p q : α → Bool) (h : ∀ x, p x = q x) : ∀ (l : List α) (i : Nat), idxL p l i = idxL q l i
  | [], i => rfl
  | x :: l, i => by rw [idxL_cons, idxL_cons, h x, idxL_same p q h l (i + 1)]
end Go.Proofs.YtjgomlcdmpcoaaaDoor.H
namespace Go.Proofs.YtjgomlcdmpcoaaaDoor.H
open Go.RowKit Go.Proofs.YtjgomlcdmpcoaaaDoorW.PrintWords Go.Proofs.YtjgomlcdmpcoaaaDoorW.PrintLast Go.Proofs.YtjgomlcdmpcoaaaDoorW.PrintMore
open Go.Proofs.YtjgomlcdmpcoaaaDoor.D Go.Proofs.YtjgomlcdmpcoaaaDoor
set_option linter.unusedVariables false
set_option linter.unusedSimpArgs false
theorem run_put {w : World} {mty kt et : TypeId} {r clock : Nat} {es : Array MapEntry} (n : Int) (val : Value) (hm : Tryd.prog.underlying mty = some (.map kt et)) (hk : Tryd.prog.underlying kt = some (.int .i64)) (hb : w.heap[r]? = some (.map es clock))
    (hf : Instr.findNow (.int .i64) (.int .i64 n) es.toList 0 = some none) :
    ∃ w', (Instr.mapUpdate mty (.map (some r)) (.int .i64 n) val).run Tryd.prog w = .ok () w' ∧ w'.heap[r]? = some (.map (es.push { key := .int .i64 n, val := val, born := clock }) (clock + 1)) ∧ w.grownBy w' (some r) := by
  have hc : (Instr.checkKey false 10000 kt (.int .i64 n)).run Tryd.prog w = .ok () w := MapKept.run_checkKey (k := .int .i64 n) hk (by simp [MapKept.IsKey]) false 9999
  have hr : r < w.heap.size := (Array.getElem?_eq_some_iff.1 hb).1
  refine ⟨{ w with heap := w.heap.setIfInBounds r (.map (es.push { key := .int .i64 n, val := val, born := clock }) (clock + 1)) }, ?_, ?_, rfl, rfl, rfl, by simp, fun k hk hne => ?_⟩
  · simp [Instr.mapUpdate, run_underlying hm, MapKept.run_getObj_map hb, hc, MapKept.run_findKey hk hf, MapKept.run_setObj_map _ hb, Result.andThen]
  · simp [hr]
  · have : r ≠ k := fun e => hne (by rw [e])
    simp [this]
theorem run_look {w : World} {mty kt et : TypeId} {r clock i : Nat} {es : Array MapEntry} {n : Int} {val : Value} (hm : Tryd.prog.underlying mty = some (.map kt et)) (hk : Tryd.prog.underlying kt = some (.int .i64)) (hb : w.heap[r]? = some (.map es clock)) (he : es.isEmpty = false)
    (hf : Instr.findNow (.int .i64) (.int .i64 n) es.toList 0 = some (some (i, val))) : (Instr.lookup mty (.map (some r)) (.int .i64 n) false).run Tryd.prog w = .ok val w := by
  have hc : (Instr.checkKey false 10000 kt (.int .i64 n)).run Tryd.prog w = .ok () w := MapKept.run_checkKey (k := .int .i64 n) hk (by simp [MapKept.IsKey]) false 9999
  simp [Instr.lookup, run_underlying hm, MapKept.run_getObj_map hb, he, hc, MapKept.run_findKey hk hf, Result.andThen]
theorem run_miss {w : World} {mty kt et : TypeId} {r clock : Nat} {es : Array MapEntry} {n : Int} {val : Value} (hm : Tryd.prog.underlying mty = some (.map kt et)) (hk : Tryd.prog.underlying kt = some (.int .i64)) (hb : w.heap[r]? = some (.map es clock)) (he : es.isEmpty = false)
    (hf : Instr.findNow (.int .i64) (.int .i64 n) es.toList 0 = some none) (hz : (zeroValue et).run Tryd.prog w = .ok val w) : (Instr.lookup mty (.map (some r)) (.int .i64 n) false).run Tryd.prog w = .ok val w := by
  have hc : (Instr.checkKey false 10000 kt (.int .i64 n)).run Tryd.prog w = .ok () w := MapKept.run_checkKey (k := .int .i64 n) hk (by simp [MapKept.IsKey]) false 9999
  simp [Instr.lookup, run_underlying hm, MapKept.run_getObj_map hb, he, hc, MapKept.run_findKey hk hf, hz, Result.andThen]
def ent (n : Int) (f : Nat) (b : Nat) : MapEntry := { key := .int .i64 n, val := .func (.func f) #[] #[], born := b }
def findsM : Array MapEntry := #[ent 6 146 0, ent 7 146 1, ent 8 147 2, ent 9 147 3, ent 10 148 4, ent 11 148 5]
theorem zero176 (w : World) : (zeroValue 176).run Tryd.prog w = .ok .nilFunc w := by kernel_rfl
theorem finds_made (W : World) (r : Nat) (h : W.heap[r]? = some (.map #[] 0)) :
    ∃ W1 W2 W3 W4 W5 W6 : World, (Instr.mapUpdate 177 (.map (some r)) (.int .i64 6) (.func (.func 146) #[] #[])).run Tryd.prog W = .ok () W1 ∧ (Instr.mapUpdate 177 (.map (some r)) (.int .i64 7) (.func (.func 146) #[] #[])).run Tryd.prog W1 = .ok () W2 ∧
      (Instr.mapUpdate 177 (.map (some r)) (.int .i64 8) (.func (.func 147) #[] #[])).run Tryd.prog W2 = .ok () W3 ∧ (Instr.mapUpdate 177 (.map (some r)) (.int .i64 9) (.func (.func 147) #[] #[])).run Tryd.prog W3 = .ok () W4 ∧
      (Instr.mapUpdate 177 (.map (some r)) (.int .i64 10) (.func (.func 148) #[] #[])).run Tryd.prog W4 = .ok () W5 ∧ (Instr.mapUpdate 177 (.map (some r)) (.int .i64 11) (.func (.func 148) #[] #[])).run Tryd.prog W5 = .ok () W6 ∧
      W6.heap[r]? = some (.map findsM 6) ∧ W.grownBy W6 (some r) := by
  obtain ⟨W1, e1, h1, g1⟩ := run_put 6 (.func (.func 146) #[] #[]) Tryd.underlying177 Tryd.underlying3 h rfl
  obtain ⟨W2, e2, h2, g2⟩ := run_put 7 (.func (.func 146) #[] #[]) Tryd.underlying177 Tryd.underlying3 h1 rfl
  obtain ⟨W3, e3, h3, g3⟩ := run_put 8 (.func (.func 147) #[] #[]) Tryd.underlying177 Tryd.underlying3 h2 rfl
  obtain ⟨W4, e4, h4, g4⟩ := run_put 9 (.func (.func 147) #[] #[]) Tryd.underlying177 Tryd.underlying3 h3 rfl
  obtain ⟨W5, e5, h5, g5⟩ := run_put 10 (.func (.func 148) #[] #[]) Tryd.underlying177 Tryd.underlying3 h4 rfl
  obtain ⟨W6, e6, h6, g6⟩ := run_put 11 (.func (.func 148) #[] #[]) Tryd.underlying177 Tryd.underlying3 h5 rfl
  exact ⟨W1, W2, W3, W4, W5, W6, e1, e2, e3, e4, e5, e6, h6, ((((g1.trans g2).trans g3).trans g4).trans g5).trans g6⟩
def finder (kind : Int) : Value := if kind = 6 ∨ kind = 7 then .func (.func 146) #[] #[] else if kind = 8 ∨ kind = 9 then .func (.func 147) #[] #[] else if kind = 10 ∨ kind = 11 then .func (.func 148) #[] #[] else .nilFunc
theorem finds_look {W : World} {r : Nat} (h : W.heap[r]? = some (.map findsM 6)) (kind : Int) : (Instr.lookup 177 (.map (some r)) (.int .i64 kind) false).run Tryd.prog W = .ok (finder kind) W := by
  by_cases h6 : kind = 6
  · subst h6; exact run_look (i := 0) Tryd.underlying177 Tryd.underlying3 h rfl rfl
  by_cases h7 : kind = 7
  · subst h7; exact run_look (i := 1) Tryd.underlying177 Tryd.underlying3 h rfl rfl
  by_cases h8 : kind = 8
  · subst h8; exact run_look (i := 2) Tryd.underlying177 Tryd.underlying3 h rfl rfl
  by_cases h9 : kind = 9
  · subst h9; exact run_look (i := 3) Tryd.underlying177 Tryd.underlying3 h rfl rfl
  by_cases h10 : kind = 10
  · subst h10; exact run_look (i := 4) Tryd.underlying177 Tryd.underlying3 h rfl rfl
  by_cases h11 : kind = 11
  · subst h11; exact run_look (i := 5) Tryd.underlying177 Tryd.underlying3 h rfl rfl
  have hf : finder kind = .nilFunc := by unfold finder; rw [if_neg (by omega), if_neg (by omega), if_neg (by omega)]
  rw [hf]
  refine run_miss Tryd.underlying177 Tryd.underlying3 h rfl ?_ (zero176 W)
  have b6 : (kind == 6) = false := by simpa using h6
  have b7 : (kind == 7) = false := by simpa using h7
  have b8 : (kind == 8) = false := by simpa using h8
  have b9 : (kind == 9) = false := by simpa using h9
  have b10 : (kind == 10) = false := by simpa using h10
  have b11 : (kind == 11) = false := by simpa using h11
  simp [findsM, ent, Instr.findNow, Instr.sameNow, b6, b7, b8, b9, b10, b11]
end Go.Proofs.YtjgomlcdmpcoaaaDoor.H
namespace Go.Proofs.YtjgomlcdmpcoaaaDoor.H
open Go.RowKit Go.Proofs.YtjgomlcdmpcoaaaDoorW.PrintWords Go.Proofs.YtjgomlcdmpcoaaaDoorW.PrintLast Go.Proofs.YtjgomlcdmpcoaaaDoorW.PrintMore
open Go.Proofs.YtjgomlcdmpcoaaaDoor.D Go.Proofs.YtjgomlcdmpcoaaaDoor
set_option linter.unusedVariables false
set_option linter.unusedSimpArgs false
section
variable {w0 W0 W W1 : World} {g n cap : Nat} {ts : List S70} {i : Nat} {oki : Nat → Prop} {t t' : S70} {cv iv : Value}
theorem UpdSt.putI {gi m c : Nat} (h : UpdSt w0 W0 W g n cap ts i oki t cv (.slice (some ⟨gi, 0, none⟩) m c)) (k : Nat) (hk : k < t.f3.length) (st : Int)
    (ht : (⟨t.f0, t.f1, t.f2, t.f3.set k ⟨t.f3[k].f0, t.f3[k].f1, t.f3[k].f2, t.f3[k].f3, st⟩, t.f4⟩ : S70) = t') :
    UpdSt w0 W0 (W.setCell ⟨gi, k * 5 + 4, none⟩ (.int .i64 st)) g n cap ts i oki t' cv (.slice (some ⟨gi, 0, none⟩) m c) := by
  subst ht
  have hm := (Kd.R_reads' h.lent.inds).1
  obtain ⟨cs, hcl, hM, hcc, _⟩ := Kd.R_elem h.lent.inds z98 (k : Int) (by omega) (by omega)
  rw [show t.f3.getD (k : Int).toNat z98 = t.f3[k] by simp [List.getD, hk]] at hM
  obtain ⟨v2, rfl, h2⟩ := k98_openM hM
  obtain ⟨hr, hg⟩ := Kd.R_seg h.lent.inds (k : Int) (by omega) (by omega) (seg := [.int .i64 st]) (j := 4) hcl hcc (Nat.le_of_ble_eq_true rfl) (x' := ⟨t.f3[k].f0, t.f3[k].f1, t.f3[k].f2, t.f3[k].f3, st⟩) (k98_mkM W w0.heap.size _ ⟨t.f3[k].f0, t.f3[k].f1, t.f3[k].f2, t.f3[k].f3, st⟩ h2) (fun k hk => hk)
  have ho : ∀ j, some gi = some j → oki j := fun j hj => h.lent.inds.1 j (by rw [← hj]; simp [Value.ownBlock])
  have hty := Kd.R_typed h.lent.inds gi (by simp [Value.ownBlock])
  obtain ⟨cells, hcells⟩ := hty
  have hbase := Kd.R_base h.lent.inds gi (by simp [Value.ownBlock])
  exact ⟨⟨h.lent.grown hg ho, h.lent.lt, Kd.R_set h.lent.cols hcells (by decide) _ _, hr, fun k hk => h.lent.fresh k (by simpa [World.setCell] using hk)⟩, h.tch.trans (Tch.of_set hcells (.inr (.inr rfl)) hbase _), h.base⟩
theorem UpdSt.putS {gi m c : Nat} (h : UpdSt w0 W0 W g n cap ts i oki t (.slice (some ⟨gi, 0, none⟩) m c) iv) (k : Nat) (hk : k < t.f2.length) (st : Int)
    (ht : (⟨t.f0, t.f1, t.f2.set k ⟨t.f2[k].f0, t.f2[k].f1, t.f2[k].f2, st, t.f2[k].f4, t.f2[k].f5⟩, t.f3, t.f4⟩ : S70) = t') :
    UpdSt w0 W0 (W.setCell ⟨gi, k * 9 + 3, none⟩ (.int .i64 st)) g n cap ts i oki t' (.slice (some ⟨gi, 0, none⟩) m c) iv := by
  subst ht
  have hm := (Kd.R_reads' h.lent.cols).1
  obtain ⟨cs, hcl, hM, hcc, _⟩ := Kd.R_elem h.lent.cols z75 (k : Int) (by omega) (by omega)
  rw [show t.f2.getD (k : Int).toNat z75 = t.f2[k] by simp [List.getD, hk]] at hM
  obtain rfl := k75_openM hM
  obtain ⟨hr, hg⟩ := Kd.R_seg h.lent.cols (k : Int) (by omega) (by omega) (seg := [.int .i64 st]) (j := 3) hcl hcc (Nat.le_of_ble_eq_true rfl) (x' := ⟨t.f2[k].f0, t.f2[k].f1, t.f2[k].f2, st, t.f2[k].f4, t.f2[k].f5⟩) (k75_mkM W w0.heap.size _ ⟨t.f2[k].f0, t.f2[k].f1, t.f2[k].f2, st, t.f2[k].f4, t.f2[k].f5⟩) (okp := fun _ => False) (fun k hk => hk.elim)
  have ho : ∀ j, some gi = some j → oki j := fun j hj => h.lent.cols.1 j (by rw [← hj]; simp [Value.ownBlock])
  obtain ⟨cells, hcells⟩ := Kd.R_typed h.lent.cols gi (by simp [Value.ownBlock])
  have hbase := Kd.R_base h.lent.cols gi (by simp [Value.ownBlock])
  exact ⟨⟨h.lent.grown hg ho, h.lent.lt, hr, Kd.R_set h.lent.inds hcells (by decide) _ _, fun k hk => h.lent.fresh k (by simpa [World.setCell] using hk)⟩, h.tch.trans (Tch.of_set hcells (.inr (.inl rfl)) hbase _), h.base⟩
theorem UpdSt.putN {gi m c : Nat} (h : UpdSt w0 W0 W g n cap ts i oki t (.slice (some ⟨gi, 0, none⟩) m c) iv) (k : Nat) (hk : k < t.f2.length) (st : Int)
    (ht : (⟨t.f0, t.f1, t.f2.set k ⟨t.f2[k].f0, t.f2[k].f1, t.f2[k].f2, t.f2[k].f3, st, t.f2[k].f5⟩, t.f3, t.f4⟩ : S70) = t') :
    UpdSt w0 W0 (W.setCell ⟨gi, k * 9 + 4, none⟩ (.int .i64 st)) g n cap ts i oki t' (.slice (some ⟨gi, 0, none⟩) m c) iv := by
  subst ht
  have hm := (Kd.R_reads' h.lent.cols).1
  obtain ⟨cs, hcl, hM, hcc, _⟩ := Kd.R_elem h.lent.cols z75 (k : Int) (by omega) (by omega)
  rw [show t.f2.getD (k : Int).toNat z75 = t.f2[k] by simp [List.getD, hk]] at hM
  obtain rfl := k75_openM hM
  obtain ⟨hr, hg⟩ := Kd.R_seg h.lent.cols (k : Int) (by omega) (by omega) (seg := [.int .i64 st]) (j := 4) hcl hcc (Nat.le_of_ble_eq_true rfl) (x' := ⟨t.f2[k].f0, t.f2[k].f1, t.f2[k].f2, t.f2[k].f3, st, t.f2[k].f5⟩) (k75_mkM W w0.heap.size _ ⟨t.f2[k].f0, t.f2[k].f1, t.f2[k].f2, t.f2[k].f3, st, t.f2[k].f5⟩) (okp := fun _ => False) (fun k hk => hk.elim)
  have ho : ∀ j, some gi = some j → oki j := fun j hj => h.lent.cols.1 j (by rw [← hj]; simp [Value.ownBlock])
  obtain ⟨cells, hcells⟩ := Kd.R_typed h.lent.cols gi (by simp [Value.ownBlock])
  have hbase := Kd.R_base h.lent.cols gi (by simp [Value.ownBlock])
  exact ⟨⟨h.lent.grown hg ho, h.lent.lt, hr, Kd.R_set h.lent.inds hcells (by decide) _ _, fun k hk => h.lent.fresh k (by simpa [World.setCell] using hk)⟩, h.tch.trans (Tch.of_set hcells (.inr (.inl rfl)) hbase _), h.base⟩
end
end Go.Proofs.YtjgomlcdmpcoaaaDoor.H
namespace Go.Proofs.YtjgomlcdmpcoaaaDoor.H
open Go.RowKit Go.Proofs.YtjgomlcdmpcoaaaDoorW.PrintWords Go.Proofs.YtjgomlcdmpcoaaaDoorW.PrintLast Go.Proofs.YtjgomlcdmpcoaaaDoorW.PrintMore
open Go.Proofs.YtjgomlcdmpcoaaaDoor.D Go.Proofs.YtjgomlcdmpcoaaaDoor
set_option linter.unusedVariables false
set_option linter.unusedSimpArgs false
theorem enters174 (args : Array Value) (w : World) : (callFunc 174 args).run Tryd.prog w = .ok (.enter 174 args) w := enters Tryd.func174 (by kernel_rfl) rfl args w
theorem enters180 (args : Array Value) (w : World) : (callFunc 180 args).run Tryd.prog w = .ok (.enter 180 args) w := enters Tryd.func180 (by kernel_rfl) rfl args w
theorem enters149 (args : Array Value) (w : World) : (callFunc 149 args).run Tryd.prog w = .ok (.enter 149 args) w := enters Tryd.func149 (by kernel_rfl) rfl args w
set_option maxRecDepth 100000 in
set_option maxHeartbeats 4000000 in
theorem indexOf_no (E : Nat) (pa : Addr) (sp : Value) (at0 : Int) (ix0 rl0 : Bool) (xs : List S98) (A : Option Addr) (c : Nat) (id : Int) (w : World) (hE : w.heap[E]? = some (.cells #[.pointer (some pa), sp, .int .i64 at0, .bool ix0, .bool rl0] 148 (0, 0)))
    (hp : w.cell? ⟨pa.block, pa.off + 3, none⟩ = some (.slice A xs.length c)) (hC : k98.C w A xs.length xs) (hpE : pa.block ≠ E) (hk : idxL (xId id) xs 0 = -1) :
    Calls Tryd.prog 146 #[.pointer (some ⟨E, 0, none⟩), .int .i64 id] w fun e w' => e = .returned (.bool false) ∧ Below E w w' := by
  have hEl := blk_lt hE
  have HX := Aside0.mk (blk_alloc hE (.cells #[.int .i64 id] 3))
  have hmf : ∀ (fn : Fn) (first cap : Array Value) (w : World), (Instr.makeFunc fn first cap).run Tryd.prog w = .ok (.func fn first cap) w := fun _ _ _ _ => rfl
  have e0 := blk_cell (j := 0) (v := .pointer (some pa)) hE rfl
  have HQ := Lib.hid (idx98 174 #[.pointer (some ⟨w.heap.size, 0, none⟩)] enters174 (fun x => x.f0 == id) A c xs (w.alloc (.cells #[.int .i64 id] 3)) (Kd.C_below hC (below_alloc (Below.refl _ _) _)) (pred174 id w.heap.size _ (by simp) (blk_cell (heap_alloc_new w (.cells #[.int .i64 id] 3)) rfl)))
  rw [idxL_same (fun x : S98 => x.f0 == id) (xId id) (fun x => by unfold xId; rfl), hk] at HQ
  have hl := World.block_lt_of_cell? w _ hp
  clear hC hk
  go_enter Tryd.func146, Tryd.ntmps146
  go_wp2_with fail
  refine HQ.out.mono ?_
  rintro e w1 ⟨rfl, hb1⟩
  have hx1 := blk_below HX.out hb1
  have c2 := blk_cell (j := 2) (v := .int .i64 at0) hx1 rfl
  have f2 := blk_frozen hx1 2
  have hbb : Below E w (w1.setCell ⟨E, 2, none⟩ (.int .i64 (-1))) := Below.setCell (p := ⟨E, 2, none⟩) (((below_alloc (Below.refl _ w) (.cells #[.int .i64 id] 3)).trans (hb1.mono (by simp))).mono (Nat.le_of_lt hEl)) (Nat.le_refl _) _
  have HB := Aside0.mk hbb
  clear hx1 hbb hb1 e0 hE
  go_wp2
  go_ret
  exact ⟨rfl, HB.out⟩
def ElemOk (E : Nat) (pa : Addr) (st : Addr) (k : Nat) (ix rl : Bool) (w : World) : Prop := w.heap[E]? = some (.cells #[.pointer (some pa), .pointer (some st), .int .i64 k, .bool ix, .bool rl] 148 (0, 0))
set_option maxRecDepth 100000 in
set_option maxHeartbeats 4000000 in
theorem indexOf_yes (E : Nat) (pa : Addr) (sp : Value) (at0 : Int) (ix0 rl0 : Bool) (xs : List S98) (ad : Addr) (c : Nat) (id : Int) (k : Nat) (w : World) (hE : w.heap[E]? = some (.cells #[.pointer (some pa), sp, .int .i64 at0, .bool ix0, .bool rl0] 148 (0, 0))) (hsp : sp = .pointer none)
    (hp : w.cell? ⟨pa.block, pa.off + 3, none⟩ = some (.slice (some ad) xs.length c)) (hC : k98.C w (some ad) xs.length xs) (hpE : pa.block ≠ E) (hk : idxL (xId id) xs 0 = (k : Int)) (hkl : k < xs.length) :
    Calls Tryd.prog 146 #[.pointer (some ⟨E, 0, none⟩), .int .i64 id] w fun e w' => e = .returned (.bool true) ∧ Below E w w' ∧ ElemOk E pa ⟨(ad.add (k * 5)).block, (ad.add (k * 5)).off + 4, none⟩ k true rl0 w' := by
  obtain ⟨A, hA⟩ : ∃ A, A = some ad := ⟨_, rfl⟩
  rw [← hA] at hp hC
  have hEl := blk_lt hE
  have HX := Aside0.mk (blk_alloc hE (.cells #[.int .i64 id] 3))
  have hmf : ∀ (fn : Fn) (first cap : Array Value) (w : World), (Instr.makeFunc fn first cap).run Tryd.prog w = .ok (.func fn first cap) w := fun _ _ _ _ => rfl
  have e0 := blk_cell (j := 0) (v := .pointer (some pa)) hE rfl
  have HQ := Lib.hid (idx98 174 #[.pointer (some ⟨w.heap.size, 0, none⟩)] enters174 (fun x => x.f0 == id) A c xs (w.alloc (.cells #[.int .i64 id] 3)) (Kd.C_below hC (below_alloc (Below.refl _ _) _)) (pred174 id w.heap.size _ (by simp) (blk_cell (heap_alloc_new w (.cells #[.int .i64 id] 3)) rfl)))
  rw [idxL_same (fun x : S98 => x.f0 == id) (xId id) (fun x => by unfold xId; rfl), hk] at HQ
  have hl := World.block_lt_of_cell? w _ hp
  rw [hA] at HQ hp
  have hki : (k : Int) < (xs.length : Int) := by omega
  have hk0 : (0 : Int) ≤ (k : Int) := by omega
  subst hsp
  clear hC hk hA
  go_enter Tryd.func146, Tryd.ntmps146
  go_wp2_with fail
  refine HQ.out.mono ?_
  rintro e w1 ⟨rfl, hb1⟩
  have hx1 := blk_below HX.out hb1
  have c2 := blk_cell (j := 2) (v := .int .i64 at0) hx1 rfl
  have f2 := blk_frozen hx1 2
  have HB := Aside0.mk (((below_alloc (Below.refl _ w) (.cells #[.int .i64 id] 3)).trans (hb1.mono (by simp))).mono (Nat.le_of_lt hEl) : Below E w w1)
  have hp1 := pw_cell_below (below_then (below_alloc (Below.refl _ w) (.cells #[.int .i64 id] 3)) (by simp) hb1) hp
  have HX1 := Aside0.mk hx1
  clear hx1 hb1 e0 hE hp
  go_wp2_with fail
  have hx2 := blk_put HX1.out 2 (.int .i64 (k : Int)) rfl
  have hp2 : (w1.setCell ⟨E, 2, none⟩ (.int .i64 (k : Int))).cell? ⟨pa.block, pa.off + 3, none⟩ = some (.slice (some ad) xs.length c) := by
    rw [← hp1]; exact cell_same (Below.heap_setCell _ _ _ _ hpE)
  have HB2 := Aside0.mk (HB.out.setCell (p := ⟨E, 2, none⟩) (Nat.le_refl _) (.int .i64 (k : Int)))
  clear c2 f2 hp1 HX1 HB HX
  generalize w1.setCell ⟨E, 2, none⟩ (.int .i64 (k : Int)) = w2 at hx2 hp2 HB2 ⊢
  have c0 := blk_cell (j := 0) (v := .pointer (some pa)) hx2 rfl
  have c1 := blk_cell (j := 1) (v := .pointer none) hx2 rfl
  have c2 := blk_cell (j := 2) (v := .int .i64 (k : Int)) hx2 rfl
  have c3 := blk_cell (j := 3) (v := .bool ix0) hx2 rfl
  have f1 := blk_frozen hx2 1
  have f3 := blk_frozen hx2 3
  have hpE' : ¬ E = pa.block := Ne.symm hpE
  have HX2 := Aside0.mk hx2
  clear hx2
  go_region
  all_goals
    go_wp2
    go_ret
    exact ⟨rfl, below_drew ((HB2.out.setCell (p := ⟨E, 1, none⟩) (Nat.le_refl _) _).setCell (p := ⟨E, 3, none⟩) (Nat.le_refl _) _), blk_put (blk_put HX2.out 1 _ rfl) 3 _ rfl⟩
theorem eql_f146 (w : World) : (binOp BinOp.eql 176 (Value.func (Fn.func 146) #[] #[]) Value.nilFunc).run Tryd.prog w = .ok (.bool false) w := by kernel_rfl
theorem enters146 (args : Array Value) (w : World) : (callFunc 146 args).run Tryd.prog w = .ok (.enter 146 args) w := enters Tryd.func146 (by kernel_rfl) rfl args w
set_option maxRecDepth 100000 in
set_option maxHeartbeats 4000000 in
theorem find6_yes (X : Nat) (v nx kind table elem : Int) (ts : List S70) (ad : Addr) (c i k : Nat) (w : World) (hkd : finder kind = .func (.func 146) #[] #[]) (hX : w.heap[X]? = some (.cells #[.int .i64 v, .slice (some ad) ts.length c, .int .i64 nx] 28 (0, 0))) (hC : k70.C w (some ad) ts.length ts)
    (hi : idxL (tId table) ts 0 = (i : Int)) (hil : i < ts.length) (hk : idxL (xId elem) ts[i].f3 0 = (k : Int)) (hkl : k < ts[i].f3.length) :
    Calls Tryd.prog 107 #[.pointer (some ⟨X, 0, none⟩), .int .i64 kind, .int .i64 table, .int .i64 elem] w fun e w' => ∃ E a3, e = .returned (.tuple #[.pointer (some ⟨E, 0, none⟩), .bool true]) ∧ Below w.heap.size w w' ∧
      ElemOk E (ad.add (i * 5)) ⟨(Addr.add a3 (k * 5)).block, (Addr.add a3 (k * 5)).off + 4, none⟩ k true false w' ∧ w'.cell? ⟨(Addr.add a3 (k * 5)).block, (Addr.add a3 (k * 5)).off + 4, none⟩ = some (.int .i64 ts[i].f3[k].f4) ∧ ∃ cc, w.cell? ⟨(ad.add (i * 5)).block, (ad.add (i * 5)).off + 3, none⟩ = some (.slice (some a3) ts[i].f3.length cc) := by
  have hXl := blk_lt hX
  obtain ⟨W0, hW0⟩ : ∃ W0, W0 = (w.alloc (.cells #[.int .i64 table] 3)).alloc (.map #[] 0) := ⟨_, rfl⟩
  have hB0 : Below w.heap.size w W0 := by rw [hW0]; exact below_alloc (below_alloc (Below.refl _ _) _) _
  have hm0 : W0.heap[w.heap.size + 1]? = some (.map #[] 0) := by
    have := heap_alloc_new (w.alloc (.cells #[.int .i64 table] 3)) (.map #[] 0)
    rw [hW0]
    simpa using this
  have ht0 : W0.heap[w.heap.size]? = some (.cells #[.int .i64 table] 3 (0, 0)) := by rw [hW0]; exact blk_alloc (heap_alloc_new w _) _
  obtain ⟨W1, W2, W3, W4, W5, W6, i1, i2, i3, i4, i5, i6, hm6, hg6⟩ := finds_made W0 (w.heap.size + 1) hm0
  have hB6 : Below w.heap.size w W6 := hB0.grown hg6 hB0.size (fun k hk => by injection hk with hk; omega)
  have ht6 : W6.heap[w.heap.size]? = some (.cells #[.int .i64 table] 3 (0, 0)) := (hg6.block _ (blk_lt ht0) (fun e => by injection e with e; omega)).trans ht0
  have hlook := finds_look hm6 kind
  rw [hkd] at hlook
  have hx6 := blk_below hX hB6
  have x1 := blk_cell (j := 1) (v := .slice (some ad) ts.length c) hx6 rfl
  have HQ := Lib.hid (idx70 149 #[.pointer (some ⟨w.heap.size, 0, none⟩)] enters149 (fun x => x.f0 == table) (some ad) c ts W6 (Kd.C_below hC hB6) (pred149 table w.heap.size W6 (blk_lt ht6) (blk_cell ht6 rfl)))
  rw [idxL_same (fun x : S70 => x.f0 == table) (tId table) (fun x => by unfold tId; rfl), hi] at HQ
  have hmm := @run_makeMap Tryd.prog
  have hmf : ∀ (fn : Fn) (first cap : Array Value) (w : World), (Instr.makeFunc fn first cap).run Tryd.prog w = .ok (.func fn first cap) w := fun _ _ _ _ => rfl
  have hii : (i : Int) < (ts.length : Int) := by omega
  have hi0 : (0 : Int) ≤ (i : Int) := by omega
  have HC := Aside0.mk hC
  have HB6 := Aside0.mk hB6
  have HX6 := Aside0.mk hx6
  rw [hW0] at i1
  clear hC hX hi hB0 hm0 ht0 hm6 hg6 hB6 ht6 hx6 hkd
  clear hW0
  go_enter Tryd.func107, Tryd.ntmps107
  have HE := Lib.hid enters146
  go_wp2_with fail
  refine HQ.out.mono ?_
  rintro e w7 ⟨rfl, hb7⟩
  have hx7 := blk_below HX6.out hb7
  have HX7 := Aside0.mk hx7
  have HB7 := Aside0.mk (below_then HB6.out HB6.out.size hb7)
  have x1' := blk_cell (j := 1) (v := .slice (some ad) ts.length c) hx7 rfl
  clear hb7 hx7 x1 i1 i2 i3 i4 i5 i6 hlook HX6 HB6 HQ
  have heq := eql_f146
  go_wp2_with fail
  have hB8 := below_then HB7.out HB7.out.size (below_alloc (Below.refl _ w7) (.cells #[.pointer (some (ad.add (i * 5))), .pointer none, .int .i64 0, .bool false, .bool false] 148))
  obtain ⟨ad', A2, c2, A3, c3, eA, h0, -, -, h3, -, -, -, hd3, hinds⟩ := at_T70 HC.out (i : Int) (by omega) (by omega)
  rw [rd70 _ _ hil] at h0 h3 hd3 hinds
  simp only [Int.toNat_natCast] at h0 h3
  obtain rfl : ad = ad' := by injection eA
  obtain ⟨a3, A5, c5, eA3, -, -, -, -, e4, -, -⟩ := at_T98 hinds (k : Int) (by omega) (by omega)
  rw [rd98 _ _ hkl] at e4
  simp only [Int.toNat_natCast] at e4
  subst eA3
  have hlt := World.block_lt_of_cell? w _ h0
  have hpE : (ad.add (i * 5)).block ≠ w7.heap.size := by have := HB7.out.size; omega
  refine (indexOf_yes w7.heap.size (ad.add (i * 5)) (.pointer none) 0 false false ts[i].f3 a3 c3 elem k _ (heap_alloc_new w7 _) rfl (pw_cell_below hB8 h3) (Kd.C_below hinds hB8) hpE hk hkl).mono ?_
  rintro e w9 ⟨rfl, hb9, hel⟩
  have hB9 := HB7.out.trans (show Below w.heap.size w7 w9 from ((below_alloc (Below.refl _ w7) _).trans hb9).mono HB7.out.size)
  have HF := Aside0.mk (And.intro hB9 (And.intro hel (And.intro (pw_cell_below hB9 e4) h3)))
  clear hb9 hel hB9 hB8 h0 h3 e4 hinds eA heq x1' hmm hmf
  go_wp2
  go_ret2
  exact ⟨w7.heap.size, a3, rfl, HF.out.1, HF.out.2.1, HF.out.2.2.1, _, HF.out.2.2.2⟩
end Go.Proofs.YtjgomlcdmpcoaaaDoor.H










namespace Go.Proofs.YtjgomlcdmpcoaaaDoor.H
open Go.RowKit Go.Proofs.YtjgomlcdmpcoaaaDoorW.PrintWords Go.Proofs.YtjgomlcdmpcoaaaDoorW.PrintLast Go.Proofs.YtjgomlcdmpcoaaaDoorW.PrintMore
open Go.Proofs.YtjgomlcdmpcoaaaDoor.D Go.Proofs.YtjgomlcdmpcoaaaDoor
set_option linter.unusedVariables false
set_option linter.unusedSimpArgs false
structure Told where
  v : Int
  ts : List S70
  nx : Int
  table : Int
  elem : Int
  err : Int
def noTold (e : Int) : Told := ⟨0, [], 0, 0, 0, e⟩
def beginP (f : S70 → S45 → S70 × Int × Int) (v : Int) (ts : List S70) (nx : Int) (s : S45) : Told :=
  if schB v ts nx = false then noTold 3
  else if 1099511627775 ≤ v then noTold 4
  else if s.f0 < 6 ∨ 11 < s.f0 then noTold 1
  else if idxL (tName s.f1) ts 0 < 0 then noTold 5
  else if (f (rd_T70 ts (idxL (tName s.f1) ts 0)) s).2.2 ≠ 0 then noTold (f (rd_T70 ts (idxL (tName s.f1) ts 0)) s).2.2
  else ⟨v + 1, ts.set (idxL (tName s.f1) ts 0).toNat (f (rd_T70 ts (idxL (tName s.f1) ts 0)) s).1, nx, (f (rd_T70 ts (idxL (tName s.f1) ts 0)) s).1.f0, (f (rd_T70 ts (idxL (tName s.f1) ts 0)) s).2.1, 0⟩
structure Bxs (w W : World) (bx sx : Array Value) : Prop where
  below : Below w.heap.size w W
  b0 : W.heap[w.heap.size]? = some (.cells bx 28 (0, 0))
  b1 : W.heap[w.heap.size + 1]? = some (.cells sx 45 (0, 0))
  b2 : W.heap[w.heap.size + 1 + 1]? = some (.cells #[.int .i64 0, .slice none 0 0, .int .i64 0] 28 (0, 0))
section
variable {w W W1 : World} {bx sx : Array Value}
theorem Bxs.new (w : World) (bx sx : Array Value) : Bxs w (((w.alloc (.cells bx 28)).alloc (.cells sx 45)).alloc (.cells #[.int .i64 0, .slice none 0 0, .int .i64 0] 28)) bx sx := by
  have h1 := heap_alloc_new w (.cells bx 28)
  have h2 := heap_alloc_new (w.alloc (.cells bx 28)) (.cells sx 45)
  have h3 := heap_alloc_new ((w.alloc (.cells bx 28)).alloc (.cells sx 45)) (.cells #[.int .i64 0, .slice none 0 0, .int .i64 0] 28)
  rw [show (w.alloc (.cells bx 28)).heap.size = w.heap.size + 1 by simp] at h2
  rw [show ((w.alloc (.cells bx 28)).alloc (.cells sx 45)).heap.size = w.heap.size + 1 + 1 by simp] at h3
  exact ⟨below_alloc (below_alloc (below_alloc (Below.refl _ _) _) _) _, blk_alloc (blk_alloc h1 _) _, blk_alloc h2 _, h3⟩
theorem Bxs.step (h : Bxs w W bx sx) (hb : Below W.heap.size W W1) : Bxs w W1 bx sx := ⟨below_then h.below h.below.size hb, blk_below h.b0 hb, blk_below h.b1 hb, blk_below h.b2 hb⟩
theorem Bxs.tch (h : Bxs w W bx sx) (hb : Tch w.heap.size W W1) : Bxs w W1 bx sx := ⟨h.below.trans hb.below, hb.box h.b0, hb.box h.b1, hb.box h.b2⟩
theorem Bxs.out (h : Bxs w W bx sx) (a b c : Value) : Below w.heap.size w (((W.setCell ⟨w.heap.size + 1 + 1, 0, none⟩ a).setCell ⟨w.heap.size + 1 + 1, 1, none⟩ b).setCell ⟨w.heap.size + 1 + 1, 2, none⟩ c) :=
  have hl : w.heap.size ≤ w.heap.size + 1 + 1 := by omega
  ((h.below.setCell hl _).setCell hl _).setCell hl _
end
def Tells (w : World) (r : Told) (e : Ending) (w' : World) : Prop :=
  ∃ A c, e = .returned (.tuple #[.agg #[.int .i64 r.v, .slice A r.ts.length c, .int .i64 r.nx], .int .i64 r.table, .int .i64 r.elem, .int .i64 r.err]) ∧ k70.R 70 w' w.heap.size (fun _ => True) (.slice A r.ts.length c) r.ts ∧ Below w.heap.size w w'
theorem schB_small {v : Int} {ts : List S70} {nx : Int} (h : schB v ts nx = true) : Small ts := by
  refine ⟨by have := (schB_len h).2; omega, fun t ht => ?_⟩
  obtain ⟨h1, h2, h3, h4⟩ := tableB_lens (schB_tab h t ht)
  exact ⟨by omega, by omega, fun x hx => by have := h4 x hx; omega⟩
theorem S_set3 {W : World} {B g : Nat} {u a b c : Value} {l : List S70} {cs : Array Value} (hS : Kd.S k70 70 W B (fun _ => True) u l) (hx : W.heap[g]? = some (.cells cs 28 (0, 0))) :
    Kd.S k70 70 (((W.setCell ⟨g, 0, none⟩ a).setCell ⟨g, 1, none⟩ b).setCell ⟨g, 2, none⟩ c) B (fun _ => True) u l := by
  have h1 := blk_put hx 0 a rfl
  have h2 := blk_put h1 1 b rfl
  exact Kd.S_set (Kd.S_set (Kd.S_set hS hx (by decide) 0 a) h1 (by decide) 1 b) h2 (by decide) 2 c
theorem Bxs.far {w W : World} {bx sx : Array Value} (h : Bxs w W bx sx) {g j : Nat} (hg : w.heap.size + 1 + 1 < g) (u : Value) : Bxs w (W.setCell ⟨g, j, none⟩ u) bx sx :=
  ⟨h.below.setCell (p := ⟨g, j, none⟩) (show w.heap.size ≤ g by omega) _, blk_far h.b0 (p := ⟨g, j, none⟩) (show w.heap.size ≠ g by omega) _, blk_far h.b1 (p := ⟨g, j, none⟩) (show w.heap.size + 1 ≠ g by omega) _, blk_far h.b2 (p := ⟨g, j, none⟩) (show w.heap.size + 1 + 1 ≠ g by omega) _⟩
theorem tells_ok {w W : World} {R : Told} {g cap : Nat} {v nx table elem : Int} {ts : List S70} (hR : R = ⟨v, ts, nx, table, elem, 0⟩) (hS : Kd.S k70 70 W w.heap.size (fun _ => True) (.slice (some ⟨g, 0, none⟩) ts.length cap) ts) (hb : Below w.heap.size w W) :
    Tells w R (.returned (.tuple #[.agg #[.int .i64 v, .slice (some ⟨g, 0, none⟩) ts.length cap, .int .i64 nx], .int .i64 table, .int .i64 elem, .int .i64 0])) W := by
  subst hR
  exact ⟨_, _, rfl, Kd.S_R hS, hb⟩
theorem tells_no {w W : World} {R : Told} {n : Int} (hR : R = noTold n) (hb : Below w.heap.size w W) : Tells w R (.returned (.tuple #[.agg #[.int .i64 0, .slice none 0 0, .int .i64 0], .int .i64 0, .int .i64 0, .int .i64 n])) W := by
  subst hR
  exact ⟨none, 0, rfl, Kd.R_nil _ _ _ _ _, hb⟩
end Go.Proofs.YtjgomlcdmpcoaaaDoor.H
namespace Go.Proofs.YtjgomlcdmpcoaaaDoor.H
open Go.RowKit Go.Proofs.YtjgomlcdmpcoaaaDoorW.PrintWords Go.Proofs.YtjgomlcdmpcoaaaDoorW.PrintLast Go.Proofs.YtjgomlcdmpcoaaaDoorW.PrintMore
open Go.Proofs.YtjgomlcdmpcoaaaDoor.D Go.Proofs.YtjgomlcdmpcoaaaDoor
attribute [local go_sem] max2_int min2_int max_two min_two max_three min_three max_four min_four
set_option linter.unusedVariables false
set_option linter.unusedSimpArgs false
def newCols : Nat → List ByteArray → List Int → List S75
  | i, n :: ns, k :: ks => ⟨(i : Int) + 1, n, k, 4, if i = 0 then 4 else 0, z73⟩ :: newCols (i + 1) ns ks
  | _, _, _ => []
def badCols : List ByteArray → List Int → Bool
  | n :: ns, k :: ks => (!nameB n || (decide (k < 1) || decide (5 < k))) || badCols ns ks
  | _, _ => false
def createP (v : Int) (ts : List S70) (nx : Int) (s : S45) : Told :=
  if schB v ts nx = false then noTold 3
  else if 1099511627775 ≤ v then noTold 4
  else if s.f0 ≠ 5 then noTold 1
  else if nameB s.f1 = false ∨ s.f3.length ≠ s.f9.length ∨ s.f3.length < 1 ∨ 8 < s.f3.length then noTold 3
  else if badCols s.f3 s.f9 = true then noTold 3
  else if 0 ≤ idxL (tName s.f1) ts 0 ∨ twiceB [] s.f3 = true then noTold 6
  else if 4 ≤ ts.length ∨ 60000 ≤ nx then noTold 4
  else ⟨v + 1, ts ++ [⟨mx nx 1, s.f1, newCols 0 s.f3 s.f9, [], (s.f3.length : Int) + 1⟩], mx nx 1 + 1, 0, 0, 0⟩
def TellsE (w : World) (r : Told) (e : Ending) (w' : World) : Prop :=
  ∃ A c, e = .returned (.tuple #[.agg #[.int .i64 r.v, .slice A r.ts.length c, .int .i64 r.nx], .int .i64 r.err]) ∧ k70.R 70 w' w.heap.size (fun _ => True) (.slice A r.ts.length c) r.ts ∧ Below w.heap.size w w'
theorem tellse_no {w W : World} {R : Told} {n : Int} (hR : R = noTold n) (hb : Below w.heap.size w W) : TellsE w R (.returned (.tuple #[.agg #[.int .i64 0, .slice none 0 0, .int .i64 0], .int .i64 n])) W := by
  subst hR
  exact ⟨none, 0, rfl, Kd.R_nil _ _ _ _ _, hb⟩
theorem R_set3 {W : World} {B g : Nat} {u a b c : Value} {l : List S70} {cs : Array Value} (hS : k70.R 70 W B (fun _ => True) u l) (hx : W.heap[g]? = some (.cells cs 28 (0, 0))) :
    k70.R 70 (((W.setCell ⟨g, 0, none⟩ a).setCell ⟨g, 1, none⟩ b).setCell ⟨g, 2, none⟩ c) B (fun _ => True) u l := by
  have h1 := blk_put hx 0 a rfl
  have h2 := blk_put h1 1 b rfl
  exact Kd.R_set (Kd.R_set (Kd.R_set hS hx (by decide) 0 a) h1 (by decide) 1 b) h2 (by decide) 2 c
theorem tellse_ok {w W : World} {R : Told} {A : Option Addr} {n c : Nat} {v nx : Int} {ts : List S70} (hR : R = ⟨v, ts, nx, 0, 0, 0⟩) (hS : k70.R 70 W w.heap.size (fun _ => True) (.slice A n c) ts) (hb : Below w.heap.size w W) :
    TellsE w R (.returned (.tuple #[.agg #[.int .i64 v, .slice A n c, .int .i64 nx], .int .i64 0])) W := by
  subst hR
  obtain ⟨h0, h1, h2⟩ := Kd.R_reads' hS
  subst h0
  exact ⟨_, _, rfl, hS, hb⟩
structure CrSt (w2 wr : World) (id : Int) (nm_ : ByteArray) (n4 : Int) (cv : Value) (l : List S75) : Prop where
  below : Below w2.heap.size w2 wr
  box : wr.heap[w2.heap.size]? = some (.cells #[.int .i64 id, .string nm_, cv, .slice none 0 0, .int .i64 n4] 70 (0, 0))
  row : k75.R 75 wr w2.heap.size (fun _ => True) cv l
section
variable {w2 wr W W1 : World} {id n4 : Int} {nm_ : ByteArray} {cv cv1 : Value} {l : List S75} {x : S75}
theorem CrSt.step (h : CrSt w2 wr id nm_ n4 cv l) (hb : Below wr.heap.size wr W) : CrSt w2 W id nm_ n4 cv l := ⟨below_then h.below h.below.size hb, blk_below h.box hb, Kd.R_below h.row hb⟩
theorem CrSt.new (w2 : World) (id : Int) (nm_ : ByteArray) (n4 : Int) : CrSt w2 (w2.alloc (.cells #[.int .i64 id, .string nm_, .slice none 0 0, .slice none 0 0, .int .i64 n4] 70)) id nm_ n4 (.slice none 0 0) [] :=
  ⟨below_alloc (Below.refl _ _) _, heap_alloc_new w2 _, Kd.R_nil _ _ _ _ _⟩
theorem CrSt.next (h : CrSt w2 wr id nm_ n4 cv l) (hb : Below w2.heap.size w2 W1) (hg : wr.grownBy W1 cv.ownBlock) (hr : k75.R 75 W1 w2.heap.size (fun _ => True) cv1 (l ++ [x])) : CrSt w2 (W1.setCell ⟨w2.heap.size, 2, none⟩ cv1) id nm_ n4 cv1 (l ++ [x]) := by
  have hx := blk_grown h.box hg (Kd.R_ne h.row h.box (by decide))
  exact ⟨hb.setCell (Nat.le_refl _) _, blk_put hx 2 _ rfl, Kd.R_set hr hx (by decide) 2 _⟩
end
end Go.Proofs.YtjgomlcdmpcoaaaDoor.H
namespace Go.Proofs.YtjgomlcdmpcoaaaDoor.H
open Go.RowKit Go.Proofs.YtjgomlcdmpcoaaaDoorW.PrintWords Go.Proofs.YtjgomlcdmpcoaaaDoorW.PrintLast Go.Proofs.YtjgomlcdmpcoaaaDoorW.PrintMore
open Go.Proofs.YtjgomlcdmpcoaaaDoor.D Go.Proofs.YtjgomlcdmpcoaaaDoor
set_option linter.unusedVariables false
set_option linter.unusedSimpArgs false
def turnI (t : S70) (k : Nat) (st : Int) : S70 := if st = 0 then ⟨t.f0, t.f1, t.f2, t.f3.eraseIdx k, t.f4⟩ else ⟨t.f0, t.f1, t.f2, t.f3.set k ⟨(rd_T98 t.f3 k).f0, (rd_T98 t.f3 k).f1, (rd_T98 t.f3 k).f2, (rd_T98 t.f3 k).f3, st⟩, t.f4⟩
def turnC (t : S70) (k : Nat) (st : Int) : S70 := if st = 0 then ⟨t.f0, t.f1, t.f2.eraseIdx k, t.f3, t.f4⟩ else ⟨t.f0, t.f1, t.f2.set k ⟨(rd_T75 t.f2 k).f0, (rd_T75 t.f2 k).f1, (rd_T75 t.f2 k).f2, st, (rd_T75 t.f2 k).f4, (rd_T75 t.f2 k).f5⟩, t.f3, t.f4⟩
def turnN (t : S70) (k : Nat) (st : Int) : S70 := ⟨t.f0, t.f1, t.f2.set k ⟨(rd_T75 t.f2 k).f0, (rd_T75 t.f2 k).f1, (rd_T75 t.f2 k).f2, (rd_T75 t.f2 k).f3, st, (rd_T75 t.f2 k).f5⟩, t.f3, t.f4⟩
def turnP (t : S70) (kind elem by_ : Int) : S70 :=
  if kind = 6 ∨ kind = 7 then turnI t (idxL (xId elem) t.f3 0).toNat (elemI t kind elem + by_)
  else if kind = 8 ∨ kind = 9 then turnC t (idxL (cId elem) t.f2 0).toNat (elemI t kind elem + by_)
  else turnN t (idxL (cId elem) t.f2 0).toNat (elemI t kind elem + by_)
def TurnAt (kind elem by_ : Int) : Prop :=
  ∀ (w0 W : World) (g n cap : Nat) (ts : List S70) (i : Nat) (oki : Nat → Prop) (t : S70) (cv iv : Value), Below w0.heap.size w0 W → Lent W w0.heap.size g n cap ts i oki t cv iv → tableB t = true → 0 ≤ elemI t kind elem → elemI t kind elem ≤ 4 →
    Calls Tryd.prog 69 #[.pointer (some ⟨g, i * 5, none⟩), .int .i64 kind, .int .i64 elem, .int .i64 by_] W fun e W' => e = .returned (.tuple #[]) ∧ Kd.S k70 70 W' w0.heap.size (fun _ => True) (.slice (some ⟨g, 0, none⟩) n cap) (ts.set i (turnP t kind elem by_)) ∧ Tch w0.heap.size W W'
theorem rindex_calls (t : S70) (h3 : t.f3.length < 1000) (n : Int) (A2 : Option Addr) (c2 : Nat) (A3 : Option Addr) (c3 : Nat) (w : World) (l2 : t.f2.length ≤ c2) (g2 : k75.C w A2 t.f2.length t.f2) (l3 : t.f3.length ≤ c3) (g3 : k98.C w A3 t.f3.length t.f3) :
    Calls Tryd.prog 66 #[.agg #[.int .i64 t.f0, .string t.f1, .slice A2 t.f2.length c2, .slice A3 t.f3.length c3, .int .i64 t.f4], .int .i64 n] w fun e w' => e = .returned (.int .i64 (idxL (xId n) t.f3 0)) ∧ Below w.heap.size w w' := by
  have h := index_run t n (by omega) t.f3.length 1001 0 (by omega) (by omega)
  rw [List.drop_zero] at h
  exact (falseworkref18_index.calls 1001 t.f0 t.f1 A2 c2 t.f2 A3 c3 t.f3 t.f4 n _ w g2 l2 g3 l3 h).mono fun e w' h => ⟨h.1, by first | exact h.2 | exact h.2.below⟩
theorem rcolumn_calls (t : S70) (h3 : t.f2.length < 1000) (n : Int) (A2 : Option Addr) (c2 : Nat) (A3 : Option Addr) (c3 : Nat) (w : World) (l2 : t.f2.length ≤ c2) (g2 : k75.C w A2 t.f2.length t.f2) (l3 : t.f3.length ≤ c3) (g3 : k98.C w A3 t.f3.length t.f3) :
    Calls Tryd.prog 67 #[.agg #[.int .i64 t.f0, .string t.f1, .slice A2 t.f2.length c2, .slice A3 t.f3.length c3, .int .i64 t.f4], .int .i64 n] w fun e w' => e = .returned (.int .i64 (idxL (cId n) t.f2 0)) ∧ Below w.heap.size w w' := by
  have h := column_run t n (by omega) t.f2.length 1001 0 (by omega) (by omega)
  rw [List.drop_zero] at h
  exact (falseworkref18_column.calls 1001 t.f0 t.f1 A2 c2 t.f2 A3 c3 t.f3 t.f4 n _ w g2 l2 g3 l3 h).mono fun e w' h => ⟨h.1, by first | exact h.2 | exact h.2.below⟩
end Go.Proofs.YtjgomlcdmpcoaaaDoor.H
namespace Go.Proofs.YtjgomlcdmpcoaaaDoor.H
open Go.RowKit Go.Proofs.YtjgomlcdmpcoaaaDoorW.PrintWords Go.Proofs.YtjgomlcdmpcoaaaDoorW.PrintLast Go.Proofs.YtjgomlcdmpcoaaaDoorW.PrintMore
open Go.Proofs.YtjgomlcdmpcoaaaDoor.D Go.Proofs.YtjgomlcdmpcoaaaDoor
set_option linter.unusedVariables false
set_option linter.unusedSimpArgs false
def stepP (v : Int) (ts : List S70) (nx : Int) (kind table elem : Int) (up : Bool) : Told :=
  if schB v ts nx = false then noTold 3
  else if 1099511627775 ≤ v then noTold 4
  else if stateI v ts nx kind table elem < 0 then noTold 5
  else if (up = true ∧ stateI v ts nx kind table elem = 4) ∨ (up = false ∧ stateI v ts nx kind table elem = 0) then noTold 12
  else if 8 ≤ kind ∧ idxL (cId elem) (rd_T70 ts (idxL (tId table) ts 0)).f2 0 = 0 then noTold 8
  else if up = false ∧ stateI v ts nx kind table elem = 1 ∧ (kind = 8 ∨ kind = 9) ∧ usedB elem (rd_T70 ts (idxL (tId table) ts 0)).f3 = true then noTold 18
  else ⟨v + 1, ts.set (idxL (tId table) ts 0).toNat (turnP (rd_T70 ts (idxL (tId table) ts 0)) kind elem (if up = true then 1 else -1)), nx, 0, 0, 0⟩
theorem stepP_eq (v : Int) (ts : List S70) (nx : Int) (kind table elem : Int) (up : Bool) : stepP v ts nx kind table elem up =
  (if schB v ts nx = false then noTold 3
  else if 1099511627775 ≤ v then noTold 4
  else if stateI v ts nx kind table elem < 0 then noTold 5
  else if (up = true ∧ stateI v ts nx kind table elem = 4) ∨ (up = false ∧ stateI v ts nx kind table elem = 0) then noTold 12
  else if 8 ≤ kind ∧ idxL (cId elem) (rd_T70 ts (idxL (tId table) ts 0)).f2 0 = 0 then noTold 8
  else if up = false ∧ stateI v ts nx kind table elem = 1 ∧ (kind = 8 ∨ kind = 9) ∧ usedB elem (rd_T70 ts (idxL (tId table) ts 0)).f3 = true then noTold 18
  else ⟨v + 1, ts.set (idxL (tId table) ts 0).toNat (turnP (rd_T70 ts (idxL (tId table) ts 0)) kind elem (if up = true then 1 else -1)), nx, 0, 0, 0⟩) := rfl
structure Bxt (w W : World) (bx : Array Value) : Prop where
  below : Below w.heap.size w W
  b0 : W.heap[w.heap.size]? = some (.cells bx 28 (0, 0))
  b2 : W.heap[w.heap.size + 1]? = some (.cells #[.int .i64 0, .slice none 0 0, .int .i64 0] 28 (0, 0))
section
variable {w W W1 : World} {bx : Array Value}
theorem Bxt.new (w : World) (bx : Array Value) : Bxt w ((w.alloc (.cells bx 28)).alloc (.cells #[.int .i64 0, .slice none 0 0, .int .i64 0] 28)) bx := by
  have h1 := heap_alloc_new w (.cells bx 28)
  have h2 := heap_alloc_new (w.alloc (.cells bx 28)) (.cells #[.int .i64 0, .slice none 0 0, .int .i64 0] 28)
  rw [show (w.alloc (.cells bx 28)).heap.size = w.heap.size + 1 by simp] at h2
  exact ⟨below_alloc (below_alloc (Below.refl _ _) _) _, blk_alloc h1 _, h2⟩
theorem Bxt.step (h : Bxt w W bx) (hb : Below W.heap.size W W1) : Bxt w W1 bx := ⟨below_then h.below h.below.size hb, blk_below h.b0 hb, blk_below h.b2 hb⟩
theorem Bxt.tch (h : Bxt w W bx) (hb : Tch w.heap.size W W1) : Bxt w W1 bx := ⟨h.below.trans hb.below, hb.box h.b0, hb.box h.b2⟩
theorem Bxt.out (h : Bxt w W bx) (a b c : Value) : Below w.heap.size w (((W.setCell ⟨w.heap.size + 1, 0, none⟩ a).setCell ⟨w.heap.size + 1, 1, none⟩ b).setCell ⟨w.heap.size + 1, 2, none⟩ c) :=
  have hl : w.heap.size ≤ w.heap.size + 1 := by omega
  ((h.below.setCell hl _).setCell hl _).setCell hl _
theorem Bxt.far (h : Bxt w W bx) {g j : Nat} (hg : w.heap.size + 1 < g) (u : Value) : Bxt w (W.setCell ⟨g, j, none⟩ u) bx :=
  ⟨h.below.setCell (p := ⟨g, j, none⟩) (show w.heap.size ≤ g by omega) _, blk_far h.b0 (p := ⟨g, j, none⟩) (show w.heap.size ≠ g by omega) _, blk_far h.b2 (p := ⟨g, j, none⟩) (show w.heap.size + 1 ≠ g by omega) _⟩
end
theorem rbyid_calls (v : Int) (ts : List S70) (nx : Int) (n : Int) (hn : ts.length < 1000) (A : Option Addr) (c : Nat) (w : World) (hc : ts.length ≤ c) (g2 : k70.C w A ts.length ts) :
    Calls Tryd.prog 65 #[.agg #[.int .i64 v, .slice A ts.length c, .int .i64 nx], .int .i64 n] w fun e w' => e = .returned (.int .i64 (idxL (tId n) ts 0)) ∧ Below w.heap.size w w' := by
  have h := byId_run n v ts nx (by omega) ts.length 1001 0 (by omega) (by omega)
  rw [List.drop_zero] at h
  exact (falseworkref18_ByID.calls 1001 v A c ts nx n _ w g2 hc h).mono fun e w' h => ⟨h.1, by first | exact h.2 | exact h.2.below⟩
def HeldY (w W0 W : World) (m : Nat) (a b c d : Value) : Prop := Below W0.heap.size W0 W ∧ W.cell? ⟨w.heap.size, 0, none⟩ = some a ∧ W.cell? ⟨w.heap.size, 1, none⟩ = some b ∧ W.cell? ⟨w.heap.size, 2, none⟩ = some c ∧ W.cell? ⟨m, 1, none⟩ = some d
theorem HeldY.new {w W0 : World} {m : Nat} {a b c d : Value} (h0 : W0.cell? ⟨w.heap.size, 0, none⟩ = some a) (h1 : W0.cell? ⟨w.heap.size, 1, none⟩ = some b) (h2 : W0.cell? ⟨w.heap.size, 2, none⟩ = some c) (h3 : W0.cell? ⟨m, 1, none⟩ = some d) : HeldY w W0 W0.drew m a b c d :=
  ⟨below_drew (Below.refl _ _), h0, h1, h2, h3⟩
theorem HeldY.step {w W0 W W' : World} {m : Nat} {a b c d : Value} (h : HeldY w W0 W m a b c d) (hb : Below W.heap.size W W') : HeldY w W0 W' m a b c d := by
  obtain ⟨h1, h2, h3, h4, h5⟩ := h
  exact ⟨below_then h1 h1.size hb, pw_cell_below hb h2, pw_cell_below hb h3, pw_cell_below hb h4, pw_cell_below hb h5⟩
end Go.Proofs.YtjgomlcdmpcoaaaDoor.H
namespace Go.Proofs.YtjgomlcdmpcoaaaDoor.H
open Go.RowKit Go.Proofs.YtjgomlcdmpcoaaaDoorW.PrintWords Go.Proofs.YtjgomlcdmpcoaaaDoorW.PrintLast Go.Proofs.YtjgomlcdmpcoaaaDoorW.PrintMore
open Go.Proofs.YtjgomlcdmpcoaaaDoor.D Go.Proofs.YtjgomlcdmpcoaaaDoor
set_option linter.unusedVariables false
set_option linter.unusedSimpArgs false
def xName (n : ByteArray) (x : S98) : Bool := decide (x.f1.toList = n.toList)
def idsOf (cols : List S75) : List ByteArray → Option (List Int)
  | [] => some []
  | n :: r => if idxL (cShown n) cols 0 < 0 then none else (idsOf cols r).map ((rd_T75 cols (idxL (cShown n) cols 0)).f0 :: ·)
def addIndexP (t : S70) (s : S45) : S70 × Int × Int :=
  if nameB s.f2 = false ∨ s.f3.length < 1 ∨ 8 < s.f3.length then (t, 0, 3)
  else if t.f3.any (xName s.f2) = true then (t, 0, 6)
  else if twiceB [] s.f3 = true then (t, 0, 6)
  else match idsOf t.f2 s.f3 with
    | none => (t, 0, 5)
    | some ids => if 4 ≤ t.f3.length ∨ 60000 ≤ t.f4 then (t, 0, 4) else (⟨t.f0, t.f1, t.f2, t.f3 ++ [⟨t.f4, s.f2, ids, s.f7, 1⟩], t.f4 + 1⟩, t.f4, 0)
structure AddSt (w2 wr : World) (n4 : Int) (nm_ : ByteArray) (uq : Bool) (iv : Value) (ids : List Int) : Prop where
  below : Below w2.heap.size w2 wr
  box : wr.heap[w2.heap.size]? = some (.cells #[.int .i64 n4, .string nm_, iv, .bool uq, .int .i64 1] 98 (0, 0))
  row : (Kd.int .i64).R 3 wr w2.heap.size (fun _ => True) iv ids
theorem AddSt.step {w2 wr W : World} {n4 : Int} {nm_ : ByteArray} {uq : Bool} {iv : Value} {ids : List Int} (h : AddSt w2 wr n4 nm_ uq iv ids) (hb : Below wr.heap.size wr W) : AddSt w2 W n4 nm_ uq iv ids :=
  ⟨below_then h.below h.below.size hb, blk_below h.box hb, Kd.R_below h.row hb⟩
theorem AddSt.new (w2 : World) (n4 : Int) (nm_ : ByteArray) (uq : Bool) : AddSt w2 (w2.alloc (.cells #[.int .i64 n4, .string nm_, .slice none 0 0, .bool uq, .int .i64 1] 98)).drew n4 nm_ uq (.slice none 0 0) [] :=
  ⟨below_drew (below_alloc (Below.refl _ _) _), heap_alloc_new w2 _, Kd.R_nil _ _ _ _ _⟩
theorem AddSt.next {w2 wr W W1 : World} {n4 : Int} {nm_ : ByteArray} {uq : Bool} {iv iv1 : Value} {ids : List Int} {x : Int} (h : AddSt w2 wr n4 nm_ uq iv ids) (hb : Below wr.heap.size wr W) (hg : W.grownBy W1 iv.ownBlock) (hr : (Kd.int .i64).R 3 W1 w2.heap.size (fun _ => True) iv1 (ids ++ [x])) :
    AddSt w2 (W1.setCell ⟨w2.heap.size, 2, none⟩ iv1) n4 nm_ uq iv1 (ids ++ [x]) := by
  have h' := h.step hb
  have hx := blk_grown h'.box hg (Kd.R_ne h'.row h'.box (by decide))
  refine ⟨Below.setCell (h'.below.grown hg h'.below.size (Kd.R_base h'.row)) (Nat.le_refl _) _, blk_put hx 2 _ rfl, Kd.R_set hr hx (by decide) 2 _⟩
end Go.Proofs.YtjgomlcdmpcoaaaDoor.H
namespace Go.Proofs.YtjgomlcdmpcoaaaDoor.H
open Go.RowKit Go.Proofs.YtjgomlcdmpcoaaaDoorW.PrintWords Go.Proofs.YtjgomlcdmpcoaaaDoorW.PrintLast Go.Proofs.YtjgomlcdmpcoaaaDoorW.PrintMore
open Go.Proofs.YtjgomlcdmpcoaaaDoor.D Go.Proofs.YtjgomlcdmpcoaaaDoor
set_option linter.unusedVariables false
set_option linter.unusedSimpArgs false
theorem C_strs {w : World} {b : Nat} {t : TypeId} {l : List ByteArray} (h : w.heap[b]? = some (.cells (l.map Value.string).toArray t (0, 0))) (hl : l.length ≤ 1000) : Kd.string.C w (some ⟨b, 0, none⟩) l.length l := by
  refine ⟨rfl, by omega, fun _ => ⟨_, rfl, fun j p hj => ⟨[.string p], rfl, rfl, fun i u hu => ?_⟩⟩⟩
  have hi : i = 0 := by have := (List.getElem?_eq_some_iff.1 hu).1; simp at this; omega
  subst hi
  have hu' : u = .string p := by simpa using hu.symm
  subst hu'
  rw [show (Kd.string.sz) = 1 from rfl, Nat.mul_one, Nat.add_zero, show (⟨b, 0, none⟩ : Addr).add j = ⟨b, j, none⟩ by unfold Addr.add; by_cases hj : j = 0 <;> simp [hj]]
  exact blk_cell h (by simp [hj])
theorem C_ints {w : World} {b : Nat} {t : TypeId} {l : List Int} (h : w.heap[b]? = some (.cells (l.map (Value.int .i64)).toArray t (0, 0))) (hl : l.length ≤ 1000) : (Kd.int .i64).C w (some ⟨b, 0, none⟩) l.length l := by
  refine ⟨rfl, by omega, fun _ => ⟨_, rfl, fun j p hj => ⟨[.int .i64 p], rfl, rfl, fun i u hu => ?_⟩⟩⟩
  have hi : i = 0 := by have := (List.getElem?_eq_some_iff.1 hu).1; simp at this; omega
  subst hi
  have hu' : u = .int .i64 p := by simpa using hu.symm
  subst hu'
  rw [show ((Kd.int .i64).sz) = 1 from rfl, Nat.mul_one, Nat.add_zero, show (⟨b, 0, none⟩ : Addr).add j = ⟨b, j, none⟩ by unfold Addr.add; by_cases hj : j = 0 <;> simp [hj]]
  exact blk_cell h (by simp [hj])
def tA : S75 := ⟨1, ⟨#[97]⟩, 2, 4, 4, z73⟩
def tB : S75 := ⟨2, ⟨#[98]⟩, 5, 4, 0, z73⟩
def tT (ix : List S98) (n : Int) : S70 := ⟨1, ⟨#[116]⟩, [tA, tB], ix, n⟩
def sT : S45 := ⟨5, ⟨#[116]⟩, ⟨#[]⟩, [⟨#[97]⟩, ⟨#[98]⟩], [], [], [], false, 0, [2, 5]⟩
def sI : S45 := ⟨6, ⟨#[116]⟩, ⟨#[105]⟩, [⟨#[98]⟩], [], [], [], false, 0, []⟩
def xI (st : Int) : S98 := ⟨3, ⟨#[105]⟩, [2], false, st⟩
theorem awake_create : createP 0 [] 0 sT = ⟨1, [tT [] 3], 2, 0, 0, 0⟩ := by kernel_rfl
theorem awake_wf (ix : List S98) (n : Int) (h : ∀ x ∈ ix, IndWf x) : ∀ t ∈ [tT ix n], TabWf t := by
  intro t ht
  rw [List.mem_singleton.1 ht]
  refine ⟨by show (1 : Nat) ≤ maxLen; decide, fun c hc => ?_, h⟩
  rcases List.mem_cons.1 hc with rfl | hc
  · exact ⟨by decide, by decide, by decide, by decide, by decide⟩
  · rw [List.mem_singleton.1 hc]
    exact ⟨by decide, by decide, by decide, by decide, by decide⟩
theorem sT_K (w : World) : k45.K ((w.alloc (.cells #[.string ⟨#[97]⟩, .string ⟨#[98]⟩] 9)).alloc (.cells #[.int .i64 2, .int .i64 5] 3)) sT [.int .i64 5, .string ⟨#[116]⟩, .string ⟨#[]⟩, .slice (some ⟨w.heap.size, 0, none⟩) 2 2, .slice none 0 0, .slice none 0 0, .slice none 0 0, .bool false, .int .i64 0, .slice (some ⟨w.heap.size + 1, 0, none⟩) 2 2] := by
  have h1 := blk_alloc (heap_alloc_new w (.cells #[.string ⟨#[97]⟩, .string ⟨#[98]⟩] 9)) (.cells #[.int .i64 2, .int .i64 5] 3)
  have h2 := heap_alloc_new (w.alloc (.cells #[.string ⟨#[97]⟩, .string ⟨#[98]⟩] 9)) (.cells #[.int .i64 2, .int .i64 5] 3)
  rw [show (w.alloc (.cells #[.string ⟨#[97]⟩, .string ⟨#[98]⟩] 9)).heap.size = w.heap.size + 1 by simp] at h2
  exact k45_mk _ sT (Nat.le_refl _) (C_strs (l := [⟨#[97]⟩, ⟨#[98]⟩]) h1 (by decide)) (Nat.le_refl _) (nil_C _ _) (Nat.le_refl _) (nil_C _ _) (Nat.le_refl _) (nil_C _ _) (Nat.le_refl _) (C_ints (l := [2, 5]) h2 (by decide))
theorem sI_K (w : World) : k45.K (w.alloc (.cells #[.string ⟨#[98]⟩] 9)) sI [.int .i64 6, .string ⟨#[116]⟩, .string ⟨#[105]⟩, .slice (some ⟨w.heap.size, 0, none⟩) 1 1, .slice none 0 0, .slice none 0 0, .slice none 0 0, .bool false, .int .i64 0, .slice none 0 0] :=
  k45_mk _ sI (Nat.le_refl _) (C_strs (l := [⟨#[98]⟩]) (heap_alloc_new w (.cells #[.string ⟨#[98]⟩] 9)) (by decide)) (Nat.le_refl _) (nil_C _ _) (Nat.le_refl _) (nil_C _ _) (Nat.le_refl _) (nil_C _ _) (Nat.le_refl _) (nil_C _ _)
theorem sT_ok : StmtOk sT := ⟨by decide, by decide, by decide, by decide, by decide, fun x hx => by cases hx⟩
theorem sI_ok : StmtOk sI := ⟨by decide, by decide, by decide, by decide, by decide, fun x hx => by cases hx⟩
theorem xI_wf (st : Int) : ∀ x ∈ [xI st], IndWf x := by
  intro x hx
  rw [List.mem_singleton.1 hx]
  exact ⟨show (-9223372036854775808 : Int) ≤ 3 by decide, show (3 : Int) < 9223372036854775808 by decide, show (1 : Nat) ≤ maxLen by decide⟩
end Go.Proofs.YtjgomlcdmpcoaaaDoor.H
