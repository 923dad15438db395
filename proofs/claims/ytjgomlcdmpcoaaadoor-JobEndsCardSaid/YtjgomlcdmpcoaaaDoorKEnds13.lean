/- Own texts of this session, packed by its program wip/pp/pack.py: lemmas and walks of functions. -/
import Derived.Test.YtjgomlcdmpcoaaaDoorKEnds10
import Derived.Test.YtjgomlcdmpcoaaaDoorKEnds12
namespace Go.Proofs.YtjgomlcdmpcoaaaDoor.H
open Go.RowKit Go.Proofs.YtjgomlcdmpcoaaaDoorW.PrintWords Go.Proofs.YtjgomlcdmpcoaaaDoorW.PrintLast Go.Proofs.YtjgomlcdmpcoaaaDoorW.PrintMore
open Go.Proofs.YtjgomlcdmpcoaaaDoor.D Go.Proofs.YtjgomlcdmpcoaaaDoor
set_option linter.unusedVariables false
set_option linter.unusedSimpArgs false
structure JE (w W : World) (bx bs bj : Nat) (kd el v st how : Int) (rd : Bool) : Prop where
  below : Below w.heap.size w W
  lx : w.heap.size ≤ bx
  lj : w.heap.size ≤ bj
  x : ∃ A c, W.heap[bx]? = some (.cells #[.int .i64 v, .slice A 1 c, .int .i64 2] 28 (0, 0)) ∧ k70.R 70 W w.heap.size (fun _ => True) (.slice A 1 c) [tabE kd st]
  s : ∃ cs, W.heap[bs]? = some (.cells cs 45 (0, 0)) ∧ cs[0]? = some (.int .i64 kd)
  j : W.heap[bj]? = some (.cells #[.int .i64 1, .int .i64 kd, .int .i64 1, .int .i64 el, .int .i64 how, .bool rd, .string ⟨#[]⟩, .bool false] 23 (0, 0))
section
variable {w W W' : World} {bx bs bj : Nat} {kd el v st how v' st' : Int} {rd : Bool}
theorem JE.step (h : JE w W bx bs bj kd el v st how rd) (hb : Below W.heap.size W W') : JE w W' bx bs bj kd el v st how rd := by
  obtain ⟨A, c, hx, hR⟩ := h.x
  obtain ⟨cs, hs, h0⟩ := h.s
  exact ⟨below_then h.below h.below.size hb, h.lx, h.lj, ⟨A, c, blk_below hx hb, Kd.R_below hR hb⟩, ⟨cs, blk_below hs hb, h0⟩, blk_below h.j hb⟩
theorem JE.setRd (h : JE w W bx bs bj kd el v st how rd) (r : Bool) : JE w (W.setCell ⟨bj, 5, none⟩ (.bool r)) bx bs bj kd el v st how r := by
  obtain ⟨A, c, hx, hR⟩ := h.x
  obtain ⟨cs, hs, h0⟩ := h.s
  exact ⟨h.below.setCell (p := ⟨bj, 5, none⟩) h.lj _, h.lx, h.lj, ⟨A, c, blk_far hx (p := ⟨bj, 5, none⟩) (blk_ne hx h.j (by decide)) _, Kd.R_set hR h.j (by decide) 5 _⟩, ⟨cs, blk_far hs (p := ⟨bj, 5, none⟩) (blk_ne hs h.j (by decide)) _, h0⟩, blk_put h.j 5 _ rfl⟩
theorem JE.setHow (h : JE w W bx bs bj kd el v st how rd) (r : Int) : JE w (W.setCell ⟨bj, 4, none⟩ (.int .i64 r)) bx bs bj kd el v st r rd := by
  obtain ⟨A, c, hx, hR⟩ := h.x
  obtain ⟨cs, hs, h0⟩ := h.s
  exact ⟨h.below.setCell (p := ⟨bj, 4, none⟩) h.lj _, h.lx, h.lj, ⟨A, c, blk_far hx (p := ⟨bj, 4, none⟩) (blk_ne hx h.j (by decide)) _, Kd.R_set hR h.j (by decide) 4 _⟩, ⟨cs, blk_far hs (p := ⟨bj, 4, none⟩) (blk_ne hs h.j (by decide)) _, h0⟩, blk_put h.j 4 _ rfl⟩
theorem JE.setX {A : Option Addr} {c B : Nat} (h : JE w W bx bs bj kd el v st how rd) (hB : w.heap.size ≤ B) (hR : k70.R 70 W B (fun _ => True) (.slice A 1 c) [tabE kd st']) :
    JE w (((W.setCell ⟨bx, 0, none⟩ (.int .i64 v')).setCell ⟨bx, 1, none⟩ (.slice A 1 c)).setCell ⟨bx, 2, none⟩ (.int .i64 2)) bx bs bj kd el v' st' how rd := by
  obtain ⟨A0, c0, hx, hR0⟩ := h.x
  obtain ⟨cs, hs, h0⟩ := h.s
  have n1 : bs ≠ bx := blk_ne hs hx (by decide)
  have n2 : bj ≠ bx := blk_ne h.j hx (by decide)
  refine ⟨((h.below.setCell (p := ⟨bx, 0, none⟩) h.lx _).setCell (p := ⟨bx, 1, none⟩) h.lx _).setCell (p := ⟨bx, 2, none⟩) h.lx _, h.lx, h.lj, ⟨A, c, blk_put (blk_put (blk_put hx 0 _ rfl) 1 _ rfl) 2 _ rfl, Kd.R_lower (R_set3 hR hx) hB⟩,
    ⟨cs, blk_far (blk_far (blk_far hs (p := ⟨bx, 0, none⟩) n1 _) (p := ⟨bx, 1, none⟩) n1 _) (p := ⟨bx, 2, none⟩) n1 _, h0⟩, blk_far (blk_far (blk_far h.j (p := ⟨bx, 0, none⟩) n2 _) (p := ⟨bx, 1, none⟩) n2 _) (p := ⟨bx, 2, none⟩) n2 _⟩
end
theorem est_calls {kd el st v : Int} (hk : KE kd) (he : elE kd = el) (hs : 1 ≤ st ∧ st ≤ 4) (hv : 0 ≤ v ∧ v < 1000) {A : Option Addr} {c : Nat} {W : World} (hc : 1 ≤ c) (hC : k70.C W A 1 [tabE kd st]) :
    Calls Tryd.prog 31 #[.agg #[.int .i64 v, .slice A 1 c, .int .i64 2], .int .i64 kd, .int .i64 1, .int .i64 el] W fun e w' => e = .returned (.int .i64 st) ∧ Below W.heap.size W w' := by
  have h := rstate_calls v [tabE kd st] 2 (show (1 : Nat) < 1000 by decide) (val_E hk) kd 1 el A c W hc hC
  rw [← he, state_E hk hs hv] at h
  rw [← he]
  exact h
theorem est0_calls {kd el v : Int} (hk : KE kd) (he : elE kd = el) (hv : 0 ≤ v ∧ v < 1000) {A : Option Addr} {c : Nat} {W : World} (hc : 1 ≤ c) (hC : k70.C W A 1 [tabE kd 0]) :
    Calls Tryd.prog 31 #[.agg #[.int .i64 v, .slice A 1 c, .int .i64 2], .int .i64 kd, .int .i64 1, .int .i64 el] W fun e w' => ∃ z : Int, z ≤ 0 ∧ e = .returned (.int .i64 z) ∧ Below W.heap.size W w' :=
  (rstate_calls v [tabE kd 0] 2 (show (1 : Nat) < 1000 by decide) (val_E hk) kd 1 el A c W hc hC).mono fun e w' h => ⟨_, by rw [← he]; exact state_E0 hk hv, h.1, h.2⟩
theorem enx_calls {kd el st v how : Int} (hk : KE kd) (he : elE kd = el) (hs : 1 ≤ st ∧ st ≤ 4) (hv : 0 ≤ v ∧ v < 1000) (hh : how = 1 ∨ how = 2) (rd : Bool) {A : Option Addr} {c : Nat} {W : World} (hG : GL W) (hc : 1 ≤ c) (hC : k70.C W A 1 [tabE kd st]) :
    Calls Tryd.prog 26 #[.agg #[.int .i64 v, .slice A 1 c, .int .i64 2], .agg #[.int .i64 1, .int .i64 kd, .int .i64 1, .int .i64 el, .int .i64 how, .bool rd, .string ⟨#[]⟩, .bool false]] W fun e w' => e = .returned (.tuple #[.int .i64 (nextP how rd st).1, .int .i64 (nextP how rd st).2]) ∧ Below W.heap.size W w' := by
  have h := jnext_calls v [tabE kd st] 2 (wf_E hk) A c 1 kd 1 el how rd ⟨#[]⟩ false W hG hc hC
  rw [← he, next_E hk hs hv hh] at h
  rw [← he]
  exact h
theorem eup_calls {kd el st v : Int} (hk : KE kd) (he : elE kd = el) (hs : 1 ≤ st ∧ st ≤ 3) (hv : 0 ≤ v ∧ v < 1000) {A : Option Addr} {c : Nat} {W : World} (hc : 1 ≤ c) (hC : k70.C W A 1 [tabE kd st]) :
    Calls Tryd.prog 32 #[.agg #[.int .i64 v, .slice A 1 c, .int .i64 2], .int .i64 kd, .int .i64 1, .int .i64 el, .bool true] W fun e w' => ∃ A' c', e = .returned (.tuple #[.agg #[.int .i64 (v + 1), .slice A' 1 c', .int .i64 2], .int .i64 0]) ∧ k70.R 70 w' W.heap.size (fun _ => True) (.slice A' 1 c') [tabE kd (st + 1)] ∧ Below W.heap.size W w' := by
  have h := step_calls v [tabE kd st] 2 kd 1 el true (show (1 : Nat) < 1000 by decide) (val_E hk) A c W hc hC
  rw [← he, step_up hk hs hv] at h
  rw [← he]
  exact h.mono fun e w' ⟨A', c', h1, h2, h3⟩ => ⟨A', c', h1, h2, h3⟩
theorem edn_calls {kd el st v : Int} (hk : KE kd) (he : elE kd = el) (hs : 1 ≤ st ∧ st ≤ 4) (hv : 0 ≤ v ∧ v < 1000) {A : Option Addr} {c : Nat} {W : World} (hc : 1 ≤ c) (hC : k70.C W A 1 [tabE kd st]) :
    Calls Tryd.prog 32 #[.agg #[.int .i64 v, .slice A 1 c, .int .i64 2], .int .i64 kd, .int .i64 1, .int .i64 el, .bool false] W fun e w' => ∃ A' c', e = .returned (.tuple #[.agg #[.int .i64 (v + 1), .slice A' 1 c', .int .i64 2], .int .i64 0]) ∧ k70.R 70 w' W.heap.size (fun _ => True) (.slice A' 1 c') [tabE kd (st - 1)] ∧ Below W.heap.size W w' := by
  have h := step_calls v [tabE kd st] 2 kd 1 el false (show (1 : Nat) < 1000 by decide) (val_E hk) A c W hc hC
  rw [← he, step_dn hk hs hv] at h
  rw [← he]
  exact h.mono fun e w' ⟨A', c', h1, h2, h3⟩ => ⟨A', c', h1, h2, h3⟩
set_option maxRecDepth 100000 in
set_option maxHeartbeats 100000000 in
theorem jobEnds_calls (which frm : Int) (q1 : 0 ≤ which ∧ which < 256) (q2 : 0 ≤ frm ∧ frm < 256) (w : World) (hG : GL w) : Calls Tryd.prog 5 #[.int .u8 which, .int .u8 frm] w fun e w' => e = .returned (.bool true) ∧ Below w.heap.size w w' := by
  obtain ⟨w0, hw0⟩ : ∃ w0, w0 = (w.alloc (.cells #[.string ⟨#[97]⟩, .string ⟨#[98]⟩] 9)).alloc (.cells #[.int .i64 2, .int .i64 5] 3) := ⟨_, rfl⟩
  have hb0 : Below w.heap.size w w0 := by rw [hw0]; exact below_alloc (below_alloc (Below.refl _ _) _) _
  have hk := sT_K w
  rw [← hw0] at hk
  have H1 := Lib.hid (create_calls 0 [] 0 sT (by decide) (fun t ht => by cases ht) none 0 w0 (Nat.le_refl _) (nil_C _ _) _ hk sT_ok)
  rw [awake_create, hw0] at H1
  rw [hw0] at hb0
  have HB0 := Aside0.mk hb0
  have HG := Aside0.mk hG
  clear hk hb0 hG hw0
  go_enter Tryd.func5, Tryd.ntmps5
  go_wp2_with fail
  refine H1.out.mono ?_
  rintro e w1 ⟨A1, c1, he, r1, hb1⟩
  have he' : e = .returned (.tuple #[.agg #[.int .i64 1, .slice A1 1 c1, .int .i64 2], .int .i64 0]) := he
  subst he'
  have r1' : k70.R 70 w1 _ (fun _ => True) (.slice A1 1 c1) [tT [] 3] := r1
  obtain ⟨-, l1', g1'⟩ := Kd.R_reads' r1'
  have HB1 := Aside0.mk (below_then HB0.out (by simp; omega) hb1)
  have h3 : which % 3 = 0 ∨ which % 3 = 1 ∨ which % 3 = 2 := by omega
  obtain ⟨top, hf, htop⟩ : ∃ top : Nat, frm % 4 = (top : Int) ∧ top ≤ 3 := ⟨(frm % 4).toNat, by omega, by omega⟩
  have HF := Lib.hid hf
  clear he r1 r1' hb1 H1 HB0 hf
  rcases h3 with h3 | h3 | h3
  · obtain ⟨W4, hW4⟩ : ∃ W4, W4 = (((w1.alloc (.cells #[.int .i64 1, .slice A1 1 c1, .int .i64 2] 28)).alloc (.cells #[.string ⟨#[98]⟩] 9)).alloc (.cells #[.int .i64 6, .string ⟨#[116]⟩, .string ⟨#[105]⟩, .slice (some ⟨w1.heap.size + 1, 0, none⟩) 1 1, .slice none 0 0, .slice none 0 0, .slice none 0 0, .bool false, .int .i64 0, .slice none 0 0, .int .i64 8, .string ⟨#[116]⟩, .string ⟨#[99]⟩, .slice none 0 0, .slice none 0 0, .slice none 0 0, .slice none 0 0, .bool false, .int .i64 2, .slice none 0 0, .int .i64 10, .string ⟨#[116]⟩, .string ⟨#[98]⟩, .slice none 0 0, .slice none 0 0, .slice none 0 0, .slice none 0 0, .bool false, .int .i64 0, .slice none 0 0] 45)).alloc (.cells #[.int .i64 6, .string ⟨#[116]⟩, .string ⟨#[105]⟩, .slice (some ⟨w1.heap.size + 1, 0, none⟩) 1 1, .slice none 0 0, .slice none 0 0, .slice none 0 0, .bool false, .int .i64 0, .slice none 0 0] 45) := ⟨_, rfl⟩
    have hb4 : Below w1.heap.size w1 W4 := by rw [hW4]; exact below_alloc (below_alloc (below_alloc (below_alloc (Below.refl _ _) _) _) _) _
    have hx4 : W4.heap[w1.heap.size]? = some (.cells #[.int .i64 1, .slice A1 1 c1, .int .i64 2] 28 (0, 0)) := by rw [hW4]; exact blk_alloc (blk_alloc (blk_alloc (heap_alloc_new w1 _) _) _) _
    have hs4 : W4.heap[w1.heap.size + 1 + 1 + 1]? = some (.cells #[.int .i64 6, .string ⟨#[116]⟩, .string ⟨#[105]⟩, .slice (some ⟨w1.heap.size + 1, 0, none⟩) 1 1, .slice none 0 0, .slice none 0 0, .slice none 0 0, .bool false, .int .i64 0, .slice none 0 0] 45 (0, 0)) := by
      have := heap_alloc_new (((w1.alloc (.cells #[.int .i64 1, .slice A1 1 c1, .int .i64 2] 28)).alloc (.cells #[.string ⟨#[98]⟩] 9)).alloc (.cells #[.int .i64 6, .string ⟨#[116]⟩, .string ⟨#[105]⟩, .slice (some ⟨w1.heap.size + 1, 0, none⟩) 1 1, .slice none 0 0, .slice none 0 0, .slice none 0 0, .bool false, .int .i64 0, .slice none 0 0, .int .i64 8, .string ⟨#[116]⟩, .string ⟨#[99]⟩, .slice none 0 0, .slice none 0 0, .slice none 0 0, .slice none 0 0, .bool false, .int .i64 2, .slice none 0 0, .int .i64 10, .string ⟨#[116]⟩, .string ⟨#[98]⟩, .slice none 0 0, .slice none 0 0, .slice none 0 0, .slice none 0 0, .bool false, .int .i64 0, .slice none 0 0] 45)) (.cells #[.int .i64 6, .string ⟨#[116]⟩, .string ⟨#[105]⟩, .slice (some ⟨w1.heap.size + 1, 0, none⟩) 1 1, .slice none 0 0, .slice none 0 0, .slice none 0 0, .bool false, .int .i64 0, .slice none 0 0] 45)
      rw [hW4]
      simpa using this
    have HX4 := Aside0.mk hx4
    have HS4 := Aside0.mk hs4
    have HB4 := Aside0.mk (below_then HB1.out HB1.out.size hb4)
    have hk2 : k45.K W4 sI [.int .i64 6, .string ⟨#[116]⟩, .string ⟨#[105]⟩, .slice (some ⟨w1.heap.size + 1, 0, none⟩) 1 1, .slice none 0 0, .slice none 0 0, .slice none 0 0, .bool false, .int .i64 0, .slice none 0 0] := by rw [hW4]; have h := sI_K (w1.alloc (.cells #[.int .i64 1, .slice A1 1 c1, .int .i64 2] 28)); rw [show (w1.alloc (.cells #[.int .i64 1, .slice A1 1 c1, .int .i64 2] 28)).heap.size = w1.heap.size + 1 by simp] at h; exact k45.K_below (below_alloc (below_alloc (Below.refl _ _) _) _) h
    have H2 := Lib.hid (begin_of 62 addIndexP addIndex_upd 1 [tT [] 3] 2 sI (.inl ⟨rfl, rfl⟩) (by decide) (awake_val _ _) A1 c1 W4 l1' (Kd.C_below g1' hb4) _ hk2 sI_ok)
    rw [begin6, hW4] at H2
    have HW4 := Lib.hid hW4
    clear hb4 hx4 hs4 hk2 g1' hW4
    go_wp2_with fail
    refine H2.out.mono ?_
    rw [← HW4.out]
    rintro e w2 ⟨A2, c2, he, r2, hb2⟩
    have he' : e = .returned (.tuple #[.agg #[.int .i64 2, .slice A2 1 c2, .int .i64 2], .int .i64 1, .int .i64 3, .int .i64 0]) := he
    subst he'
    have r2' : k70.R 70 w2 _ (fun _ => True) (.slice A2 1 c2) [tabE 6 1] := r2
    have HB5 := Aside0.mk (below_then HB4.out HB4.out.size hb2)
    have hx5 := blk_below HX4.out hb2
    have hs5 := blk_below HS4.out hb2
    clear he r2 hb2 H2 HW4
    have a0 := blk_cell (j := 0) (v := .int .i64 1) hx5 rfl
    have a1 := blk_cell (j := 1) (v := .slice A1 1 c1) hx5 rfl
    have a2 := blk_cell (j := 2) (v := .int .i64 2) hx5 rfl
    have f0 := blk_frozen hx5 0
    have f1 := blk_frozen hx5 1
    have f2 := blk_frozen hx5 2
    have s0 := blk_cell (j := 0) (v := .int .i64 6) hs5 rfl
    have hl1 : w.heap.size ≤ w1.heap.size := HB1.out.size
    have hne : w1.heap.size + 1 + 1 + 1 ≠ w1.heap.size := by omega
    have hne' : w1.heap.size ≠ w1.heap.size + 1 + 1 + 1 := by omega
    have hxl : w1.heap.size < w2.heap.size := lt_of_block hx5
    obtain ⟨W6, hW6⟩ : ∃ W6, W6 = ((w2.setCell ⟨w1.heap.size, 0, none⟩ (.int .i64 2)).setCell ⟨w1.heap.size, 1, none⟩ (.slice A2 1 c2)).setCell ⟨w1.heap.size, 2, none⟩ (.int .i64 2) := ⟨_, rfl⟩
    have hx6 : W6.heap[w1.heap.size]? = some (.cells #[.int .i64 2, .slice A2 1 c2, .int .i64 2] 28 (0, 0)) := by rw [hW6]; exact blk_put (blk_put (blk_put hx5 0 _ rfl) 1 _ rfl) 2 _ rfl
    have hs6 := blk_far (blk_far (blk_far hs5 (p := ⟨w1.heap.size, 0, none⟩) hne (.int .i64 2)) (p := ⟨w1.heap.size, 1, none⟩) hne (.slice A2 1 c2)) (p := ⟨w1.heap.size, 2, none⟩) hne (.int .i64 2)
    have hr6 := R_set3 (a := .int .i64 2) (b := .slice A2 1 c2) (c := .int .i64 2) r2' hx5
    have hb6 : Below w.heap.size w W6 := by
      rw [hW6]
      exact ((HB5.out.setCell (p := ⟨w1.heap.size, 0, none⟩) hl1 _).setCell (p := ⟨w1.heap.size, 1, none⟩) hl1 _).setCell (p := ⟨w1.heap.size, 2, none⟩) hl1 _
    rw [← hW6] at hs6 hr6
    have hb7 := below_alloc (Below.refl _ W6) (.cells #[.int .i64 1, .int .i64 6, .int .i64 1, .int .i64 3, .int .i64 1, .bool false, .string ⟨#[]⟩, .bool false] 23)
    have HJ : Aside0 (JE w (W6.alloc (.cells #[.int .i64 1, .int .i64 6, .int .i64 1, .int .i64 3, .int .i64 1, .bool false, .string ⟨#[]⟩, .bool false] 23)) w1.heap.size (w1.heap.size + 1 + 1 + 1) W6.heap.size 6 3 2 1 1 false) :=
      ⟨⟨below_then hb6 hb6.size hb7, hl1, hb6.size, ⟨A2, c2, blk_below hx6 hb7, Kd.R_below (Kd.R_lower hr6 (Nat.le_trans HB4.out.size (Nat.le_refl _))) hb7⟩, ⟨_, blk_below hs6 hb7, rfl⟩, heap_alloc_new W6 _⟩⟩
    have hz6 : W6.heap.size = w2.heap.size := by rw [hW6]; simp [World.setCell]
    rw [hz6] at HJ
    have HKE := Lib.hid (show KE 6 from by first | exact .inl rfl | exact .inr (.inl rfl) | exact .inr (.inr rfl))
    have HEL := Lib.hid (show elE 6 = 3 from rfl)
    clear hx6 hs6 hr6 hb6 hb7 hz6 hs5 hx5 r2' HB4 HX4 HS4
    rw [hW6] at HJ
    clear hW6
    go_wp2_with fail
    clear a0 a1 a2 f0 f1 f2 s0 hl1 hne hne' hxl HB5
    go_loopg [10, 12, 13] (2 * top + 1) (fun gg u10 u12 u13 wr => ∃ p n : Nat, ∃ r : Bool, p ≤ top ∧ (r = true → p = 1) ∧ n ≤ 2 * p + (if r = true then 1 else 0) ∧ 2 * (top - p) + (if r = true then 0 else 1) ≤ gg ∧ u10 = .int .i64 0 ∧ u12 = .int .i64 p ∧ u13 = .int .i64 n ∧ Aside0 (JE w wr w1.heap.size (w1.heap.size + 1 + 1 + 1) w2.heap.size 6 3 (2 + (p : Int)) (1 + (p : Int)) 1 r))
    case atStart => exact ⟨0, 0, false, Nat.zero_le _, by simp, by simp, by simp, rfl, rfl, rfl, HJ⟩
    case round =>
      clear HJ
      obtain ⟨p, n, r, hp, hrp, hn, hg, rfl, rfl, rfl, HJ⟩ := hrel
      have hr1 : (if r = true then 1 else 0) ≤ 1 := by split <;> omega
      have hn20 : (n : Int) < 20 := by omega
      obtain ⟨A, c, hx, hR⟩ := HJ.out.x
      obtain ⟨-, lc, hC⟩ := Kd.R_reads' hR
      obtain ⟨cs, hs, hs0⟩ := HJ.out.s
      have x0 := blk_cell (j := 0) (v := .int .i64 (2 + (p : Int))) hx rfl
      have x1 := blk_cell (j := 1) (v := .slice A 1 c) hx rfl
      have x2 := blk_cell (j := 2) (v := .int .i64 2) hx rfl
      have s0 := blk_cell (j := 0) hs hs0
      have HCALL := Lib.hid (est_calls HKE.out HEL.out (show 1 ≤ 1 + (p : Int) ∧ 1 + (p : Int) ≤ 4 by omega) (show 0 ≤ 2 + (p : Int) ∧ 2 + (p : Int) < 1000 by omega) lc hC)
      clear hx hR hC hs hs0 hr1
      go_wp2_with fail
      refine HCALL.out.mono ?_
      rintro e w3 ⟨rfl, hb3⟩
      have HJ3 := Aside0.mk (HJ.out.step hb3)
      clear hb3 x0 x1 x2 s0 HCALL HJ
      by_cases hpt : p = top
      · have hq : ((1 + (p : Int)) == (1 + frm % 4)) = true := by rw [HF.out, hpt]; simp
        subst hpt
        have y4 := blk_cell (j := 4) (v := .int .i64 1) HJ3.out.j rfl
        have y5 := blk_cell (j := 5) (v := .bool r) HJ3.out.j rfl
        have f4 := blk_frozen HJ3.out.j 4
        have f5 := blk_frozen HJ3.out.j 5
        have HJ4 := Aside0.mk ((HJ3.out.setHow 2).setRd false)
        clear HJ3
        go_wp2_with fail
        clear y4 y5 f4 f5
        generalize (w3.setCell ⟨w2.heap.size, 4, none⟩ (.int .i64 2)).setCell ⟨w2.heap.size, 5, none⟩ (.bool false) = w4 at HJ4 ⊢
        go_loopg [10, 16, 17, 18] (2 * (p + 1) + 1) (fun gg u10 u16 u17 u18 wr => ∃ d n : Nat, ∃ r : Bool, ∃ pu : Int, (r = true → pu = 1) ∧ (r = false → pu = 0) ∧ d ≤ p + 1 ∧ (r = true → p ≤ d) ∧ (r = false → d ≤ p) ∧ n ≤ d + (if r = true then 1 else 0) ∧ 2 * (p + 1 - d) + (if r = true then 0 else 1) ≤ gg ∧ u10 = .int .i64 0 ∧ u16 = .int .i64 d ∧ u17 = .int .i64 pu ∧ u18 = .int .i64 n ∧ Aside0 (JE w wr w1.heap.size (w1.heap.size + 1 + 1 + 1) w2.heap.size 6 3 (2 + (p : Int) + (d : Int)) (1 + (p : Int) - (d : Int)) 2 r))
        case atStart => exact ⟨0, 0, false, 0, by simp, by simp, Nat.zero_le _, by simp, fun _ => Nat.zero_le _, by simp, by simp, rfl, rfl, rfl, rfl, ⟨by have := HJ4.out; simpa using this⟩⟩
        case round =>
          clear HJ4
          obtain ⟨d, n, r, pu, hp1, hp0, hd, hrt, hrf, hn, hg, rfl, rfl, rfl, rfl, HJ⟩ := hrel
          have hr1 : (if r = true then 1 else 0) ≤ 1 := by split <;> omega
          have hn20 : (n : Int) < 20 := by omega
          obtain ⟨A, c, hx, hR⟩ := HJ.out.x
          obtain ⟨-, lc, hC⟩ := Kd.R_reads' hR
          obtain ⟨cs, hs, hs0⟩ := HJ.out.s
          have x0 := blk_cell (j := 0) (v := .int .i64 (2 + (p : Int) + (d : Int))) hx rfl
          have x1 := blk_cell (j := 1) (v := .slice A 1 c) hx rfl
          have x2 := blk_cell (j := 2) (v := .int .i64 2) hx rfl
          have s0 := blk_cell (j := 0) hs hs0
          by_cases hdt : d = p + 1
          · obtain rfl : r = true := by cases r; exact absurd (hrf rfl) (by omega); rfl
            obtain rfl : pu = 1 := hp1 rfl
            have hst : 1 + (p : Int) - (d : Int) = 0 := by omega
            rw [hst] at hC
            have HCALL := Lib.hid (est0_calls HKE.out HEL.out (show 0 ≤ 2 + (p : Int) + (d : Int) ∧ 2 + (p : Int) + (d : Int) < 1000 by omega) lc hC)
            have HDT := Lib.hid hdt
            clear hx hR hC hs hs0 hr1 hst hp1 hp0 hn hrt hrf hg hdt hd hq
            go_wp2_with fail
            refine HCALL.out.mono ?_
            rintro e w5 ⟨z, hz0, rfl, hb5⟩
            have hz1 : decide (0 < z) = false := decide_eq_false (by omega)
            have hq2 : ((p : Int) == frm % 4) = true := by rw [HF.out]; simp
            have hq3 : ((d : Int) == (p : Int) + 1) = true := by rw [HDT.out]; simp
            have HJ5 := Aside0.mk (HJ.out.step hb5)
            clear hb5 x0 x1 x2 s0 HCALL HJ hz0 hn20
            go_wp2_with fail
            refine (awake24_calls _ (HG.out.of_below HJ5.out.below)).mono ?_
            rintro e w6 ⟨rfl, hb6⟩
            have HB6 := Aside0.mk (below_then HJ5.out.below HJ5.out.below.size hb6)
            clear hb6
            go_wp2
            go_ret
            exact ⟨rfl, HB6.out⟩
          · have hs1 : 0 < 1 + (p : Int) - (d : Int) := by omega
            have HCALL := Lib.hid (est_calls HKE.out HEL.out (show 1 ≤ 1 + (p : Int) - (d : Int) ∧ 1 + (p : Int) - (d : Int) ≤ 4 by omega) (show 0 ≤ 2 + (p : Int) + (d : Int) ∧ 2 + (p : Int) + (d : Int) < 1000 by omega) lc hC)
            clear hx hR hC hs hs0 hr1
            go_wp2_with fail
            refine HCALL.out.mono ?_
            rintro e w5 ⟨rfl, hb5⟩
            have HJ5 := Aside0.mk (HJ.out.step hb5)
            clear hb5 x0 x1 x2 s0 HCALL HJ
            obtain ⟨A, c, hx, hR⟩ := HJ5.out.x
            obtain ⟨-, lc, hC⟩ := Kd.R_reads' hR
            obtain ⟨cs, hs, hs0⟩ := HJ5.out.s
            have x0 := blk_cell (j := 0) (v := .int .i64 (2 + (p : Int) + (d : Int))) hx rfl
            have x1 := blk_cell (j := 1) (v := .slice A 1 c) hx rfl
            have x2 := blk_cell (j := 2) (v := .int .i64 2) hx rfl
            have s0 := blk_cell (j := 0) hs hs0
            have y0 := blk_cell (j := 0) (v := .int .i64 1) HJ5.out.j rfl
            have y1 := blk_cell (j := 1) (v := .int .i64 6) HJ5.out.j rfl
            have y2 := blk_cell (j := 2) (v := .int .i64 1) HJ5.out.j rfl
            have y3 := blk_cell (j := 3) (v := .int .i64 3) HJ5.out.j rfl
            have y4 := blk_cell (j := 4) (v := .int .i64 2) HJ5.out.j rfl
            have y5 := blk_cell (j := 5) (v := .bool r) HJ5.out.j rfl
            have y6 := blk_cell (j := 6) (v := .string ⟨#[]⟩) HJ5.out.j rfl
            have y7 := blk_cell (j := 7) (v := .bool false) HJ5.out.j rfl
            have HCALL := Lib.hid (enx_calls HKE.out HEL.out (show 1 ≤ 1 + (p : Int) - (d : Int) ∧ 1 + (p : Int) - (d : Int) ≤ 4 by omega) (show 0 ≤ 2 + (p : Int) + (d : Int) ∧ 2 + (p : Int) + (d : Int) < 1000 by omega) (.inr rfl) r (HG.out.of_below HJ5.out.below) lc hC)
            have hN : (d = p ∧ r = false ∧ nextP 2 r (1 + (p : Int) - (d : Int)) = (4, 0)) ∨ (¬ (d = p ∧ r = false) ∧ nextP 2 r (1 + (p : Int) - (d : Int)) = (3, 0)) := by
              unfold nextP
              rw [if_neg (by omega), if_neg (by omega), if_neg (by omega), if_neg (by omega)]
              by_cases hdr : d = p ∧ r = false
              · exact .inl ⟨hdr.1, hdr.2, if_pos ⟨by omega, hdr.2⟩⟩
              · exact .inr ⟨hdr, if_neg (fun h => hdr ⟨by omega, h.2⟩)⟩
            clear hx hR hC hs hs0
            go_wp2_with fail
            refine HCALL.out.mono ?_
            rintro e w6 ⟨rfl, hb6⟩
            have HJ6 := Aside0.mk (HJ5.out.step hb6)
            clear hb6 x0 x1 x2 s0 y0 y1 y2 y3 y4 y5 y6 y7 HCALL HJ5
            rcases hN with ⟨rfl, rfl, hN⟩ | ⟨hno, hN⟩
            · rw [hN]
              have y5 := blk_cell (j := 5) (v := .bool false) HJ6.out.j rfl
              have f5 := blk_frozen HJ6.out.j 5
              have HJ7 := Aside0.mk (HJ6.out.setRd true)
              clear HJ6
              go_wp2_with (go_at_call 28; refine (num24_calls _ _).mono ?_; rintro e w' ⟨rfl, rfl⟩)
              go_roundg (2 * (d + 1 - d))
              case measure => simp at hg; omega
              case rel => exact ⟨d, n + 1, true, 1, by simp, by simp, by omega, fun _ => Nat.le_refl _, by simp, by simp at hn ⊢; omega, by simp, rfl, rfl, by go_num, by go_num, HJ7⟩
            · rw [hN]
              obtain ⟨A, c, hx, hR⟩ := HJ6.out.x
              obtain ⟨-, lc, hC⟩ := Kd.R_reads' hR
              obtain ⟨cs, hs, hs0⟩ := HJ6.out.s
              have x0 := blk_cell (j := 0) (v := .int .i64 (2 + (p : Int) + (d : Int))) hx rfl
              have x1 := blk_cell (j := 1) (v := .slice A 1 c) hx rfl
              have x2 := blk_cell (j := 2) (v := .int .i64 2) hx rfl
              have s0 := blk_cell (j := 0) hs hs0
              have HCALL := Lib.hid (edn_calls HKE.out HEL.out (show 1 ≤ 1 + (p : Int) - (d : Int) ∧ 1 + (p : Int) - (d : Int) ≤ 4 by omega) (show 0 ≤ 2 + (p : Int) + (d : Int) ∧ 2 + (p : Int) + (d : Int) < 1000 by omega) lc hC)
              rw [show 2 + (p : Int) + (d : Int) + 1 = 2 + (p : Int) + ((d + 1 : Nat) : Int) by omega, show 1 + (p : Int) - (d : Int) - 1 = 1 + (p : Int) - ((d + 1 : Nat) : Int) by omega] at HCALL
              clear hx hR hC hs hs0
              go_wp2_with (first | (go_at_call 28; refine (num24_calls _ _).mono ?_; rintro e w' ⟨rfl, rfl⟩))
              refine HCALL.out.mono ?_
              rintro e w7 ⟨A6, c6, rfl, hR6, hb7⟩
              have HJ7 := Aside0.mk (HJ6.out.step hb7)
              have HJ8 := Aside0.mk (HJ7.out.setX (v' := 2 + (p : Int) + ((d + 1 : Nat) : Int)) HJ6.out.below.size hR6)
              clear hb7 hR6 x0 x1 x2 s0 HCALL HJ6
              obtain ⟨A, c, hx, -⟩ := HJ7.out.x
              have x0 := blk_cell (j := 0) (v := .int .i64 (2 + (p : Int) + (d : Int))) hx rfl
              have x1 := blk_cell (j := 1) (v := .slice A 1 c) hx rfl
              have x2 := blk_cell (j := 2) (v := .int .i64 2) hx rfl
              have f0 := blk_frozen hx 0
              have f1 := blk_frozen hx 1
              have f2 := blk_frozen hx 2
              clear hx HJ7
              go_wp2_with fail
              go_roundg (2 * (p + 1 - (d + 1)) + (if r = true then 0 else 1))
              case measure => cases r <;> simp at hg ⊢ <;> omega
              case rel => exact ⟨d + 1, n + 1, r, pu, hp1, hp0, by omega, fun h => by have := hrt h; omega, fun h => by have : d ≠ p := fun e => hno ⟨e, h⟩; omega, by omega, Nat.le_refl _, rfl, by go_num, rfl, by go_num, HJ8⟩
      · have hq : ((1 + (p : Int)) == (1 + frm % 4)) = false := by
          rw [HF.out]
          have : (1 + (p : Int)) ≠ 1 + (top : Int) := by omega
          simpa using this
        obtain ⟨A, c, hx, hR⟩ := HJ3.out.x
        obtain ⟨-, lc, hC⟩ := Kd.R_reads' hR
        obtain ⟨cs, hs, hs0⟩ := HJ3.out.s
        have x0 := blk_cell (j := 0) (v := .int .i64 (2 + (p : Int))) hx rfl
        have x1 := blk_cell (j := 1) (v := .slice A 1 c) hx rfl
        have x2 := blk_cell (j := 2) (v := .int .i64 2) hx rfl
        have s0 := blk_cell (j := 0) hs hs0
        have y0 := blk_cell (j := 0) (v := .int .i64 1) HJ3.out.j rfl
        have y1 := blk_cell (j := 1) (v := .int .i64 6) HJ3.out.j rfl
        have y2 := blk_cell (j := 2) (v := .int .i64 1) HJ3.out.j rfl
        have y3 := blk_cell (j := 3) (v := .int .i64 3) HJ3.out.j rfl
        have y4 := blk_cell (j := 4) (v := .int .i64 1) HJ3.out.j rfl
        have y5 := blk_cell (j := 5) (v := .bool r) HJ3.out.j rfl
        have y6 := blk_cell (j := 6) (v := .string ⟨#[]⟩) HJ3.out.j rfl
        have y7 := blk_cell (j := 7) (v := .bool false) HJ3.out.j rfl
        have HCALL := Lib.hid (enx_calls HKE.out HEL.out (show 1 ≤ 1 + (p : Int) ∧ 1 + (p : Int) ≤ 4 by omega) (show 0 ≤ 2 + (p : Int) ∧ 2 + (p : Int) < 1000 by omega) (.inl rfl) r (HG.out.of_below HJ3.out.below) lc hC)
        have hN : (p = 1 ∧ r = false ∧ nextP 1 r (1 + (p : Int)) = (2, 0)) ∨ (¬ (p = 1 ∧ r = false) ∧ nextP 1 r (1 + (p : Int)) = (1, 0)) := by
          have h3 : p = 0 ∨ p = 1 ∨ p = 2 := by omega
          rcases h3 with rfl | rfl | rfl <;> cases r
          · exact .inr ⟨by simp, rfl⟩
          · exact .inr ⟨by simp, rfl⟩
          · exact .inl ⟨rfl, rfl, rfl⟩
          · exact .inr ⟨by simp, rfl⟩
          · exact .inr ⟨by simp, rfl⟩
          · exact .inr ⟨by simp, rfl⟩
        clear hx hR hC hs hs0
        go_wp2_with fail
        refine HCALL.out.mono ?_
        rintro e w4 ⟨rfl, hb4⟩
        have HJ4 := Aside0.mk (HJ3.out.step hb4)
        clear hb4 x0 x1 x2 s0 y0 y1 y2 y3 y4 y5 y6 y7 HCALL HJ3
        rcases hN with ⟨rfl, rfl, hN⟩ | ⟨hno, hN⟩
        · rw [hN]
          have y5 := blk_cell (j := 5) (v := .bool false) HJ4.out.j rfl
          have f5 := blk_frozen HJ4.out.j 5
          have HJ5 := Aside0.mk (HJ4.out.setRd true)
          clear HJ4
          go_wp2_with (go_at_call 28; refine (num24_calls _ _).mono ?_; rintro e w' ⟨rfl, rfl⟩)
          go_roundg (2 * (top - 1))
          case measure => simp at hg; omega
          case rel => exact ⟨1, n + 1, true, by omega, fun _ => rfl, by simp at hn ⊢; omega, by simp, rfl, rfl, by go_num, HJ5⟩
        · rw [hN]
          have y5 := blk_cell (j := 5) (v := .bool r) HJ4.out.j rfl
          have f5 := blk_frozen HJ4.out.j 5
          have HJ5 := Aside0.mk (HJ4.out.setRd false)
          have HW5 : Aside0 (∃ W5, W5 = w4.setCell ⟨w2.heap.size, 5, none⟩ (.bool false)) := ⟨⟨_, rfl⟩⟩
          obtain ⟨W5, hW5⟩ := HW5.out
          rw [← hW5] at HJ5
          obtain ⟨A, c, hx, hR⟩ := HJ5.out.x
          obtain ⟨-, lc, hC⟩ := Kd.R_reads' hR
          obtain ⟨cs, hs, hs0⟩ := HJ5.out.s
          have x0 := blk_cell (j := 0) (v := .int .i64 (2 + (p : Int))) hx rfl
          have x1 := blk_cell (j := 1) (v := .slice A 1 c) hx rfl
          have x2 := blk_cell (j := 2) (v := .int .i64 2) hx rfl
          have s0 := blk_cell (j := 0) hs hs0
          have HCALL := Lib.hid (eup_calls HKE.out HEL.out (show 1 ≤ 1 + (p : Int) ∧ 1 + (p : Int) ≤ 3 by omega) (show 0 ≤ 2 + (p : Int) ∧ 2 + (p : Int) < 1000 by omega) lc hC)
          rw [show 2 + (p : Int) + 1 = 2 + ((p + 1 : Nat) : Int) by omega, show 1 + (p : Int) + 1 = 1 + ((p + 1 : Nat) : Int) by omega] at HCALL
          rw [hW5] at HCALL x0 x1 x2 s0
          have HW5 := Lib.hid hW5
          clear hx hR hC hs hs0 hW5
          go_wp2_with (go_at_call 28; refine (num24_calls _ _).mono ?_; rintro e w' ⟨rfl, rfl⟩)
          refine HCALL.out.mono ?_
          rw [← HW5.out]
          rintro e w6 ⟨A6, c6, rfl, hR6, hb6⟩
          have HJ6 := Aside0.mk (HJ5.out.step hb6)
          have HJ7 := Aside0.mk (HJ6.out.setX (v' := 2 + ((p + 1 : Nat) : Int)) HJ5.out.below.size hR6)
          clear hb6 hR6 x0 x1 x2 s0 y5 f5 HCALL HJ5 HW5 HJ4
          obtain ⟨A, c, hx, -⟩ := HJ6.out.x
          have x0 := blk_cell (j := 0) (v := .int .i64 (2 + (p : Int))) hx rfl
          have x1 := blk_cell (j := 1) (v := .slice A 1 c) hx rfl
          have x2 := blk_cell (j := 2) (v := .int .i64 2) hx rfl
          have f0 := blk_frozen hx 0
          have f1 := blk_frozen hx 1
          have f2 := blk_frozen hx 2
          clear hx HJ6
          go_wp2_with fail
          go_roundg (2 * (top - (p + 1)) + 1)
          case measure => cases r <;> simp at hg <;> omega
          case rel => exact ⟨p + 1, n + 1, false, by omega, by simp, by cases r <;> simp at hn ⊢ <;> omega, by simp, rfl, by go_num, by go_num, HJ7⟩
  · obtain ⟨W4, hW4⟩ : ∃ W4, W4 = (((w1.alloc (.cells #[.int .i64 1, .slice A1 1 c1, .int .i64 2] 28)).alloc (.cells #[.string ⟨#[98]⟩] 9)).alloc (.cells #[.int .i64 6, .string ⟨#[116]⟩, .string ⟨#[105]⟩, .slice (some ⟨w1.heap.size + 1, 0, none⟩) 1 1, .slice none 0 0, .slice none 0 0, .slice none 0 0, .bool false, .int .i64 0, .slice none 0 0, .int .i64 8, .string ⟨#[116]⟩, .string ⟨#[99]⟩, .slice none 0 0, .slice none 0 0, .slice none 0 0, .slice none 0 0, .bool false, .int .i64 2, .slice none 0 0, .int .i64 10, .string ⟨#[116]⟩, .string ⟨#[98]⟩, .slice none 0 0, .slice none 0 0, .slice none 0 0, .slice none 0 0, .bool false, .int .i64 0, .slice none 0 0] 45)).alloc (.cells #[.int .i64 8, .string ⟨#[116]⟩, .string ⟨#[99]⟩, .slice none 0 0, .slice none 0 0, .slice none 0 0, .slice none 0 0, .bool false, .int .i64 2, .slice none 0 0] 45) := ⟨_, rfl⟩
    have hb4 : Below w1.heap.size w1 W4 := by rw [hW4]; exact below_alloc (below_alloc (below_alloc (below_alloc (Below.refl _ _) _) _) _) _
    have hx4 : W4.heap[w1.heap.size]? = some (.cells #[.int .i64 1, .slice A1 1 c1, .int .i64 2] 28 (0, 0)) := by rw [hW4]; exact blk_alloc (blk_alloc (blk_alloc (heap_alloc_new w1 _) _) _) _
    have hs4 : W4.heap[w1.heap.size + 1 + 1 + 1]? = some (.cells #[.int .i64 8, .string ⟨#[116]⟩, .string ⟨#[99]⟩, .slice none 0 0, .slice none 0 0, .slice none 0 0, .slice none 0 0, .bool false, .int .i64 2, .slice none 0 0] 45 (0, 0)) := by
      have := heap_alloc_new (((w1.alloc (.cells #[.int .i64 1, .slice A1 1 c1, .int .i64 2] 28)).alloc (.cells #[.string ⟨#[98]⟩] 9)).alloc (.cells #[.int .i64 6, .string ⟨#[116]⟩, .string ⟨#[105]⟩, .slice (some ⟨w1.heap.size + 1, 0, none⟩) 1 1, .slice none 0 0, .slice none 0 0, .slice none 0 0, .bool false, .int .i64 0, .slice none 0 0, .int .i64 8, .string ⟨#[116]⟩, .string ⟨#[99]⟩, .slice none 0 0, .slice none 0 0, .slice none 0 0, .slice none 0 0, .bool false, .int .i64 2, .slice none 0 0, .int .i64 10, .string ⟨#[116]⟩, .string ⟨#[98]⟩, .slice none 0 0, .slice none 0 0, .slice none 0 0, .slice none 0 0, .bool false, .int .i64 0, .slice none 0 0] 45)) (.cells #[.int .i64 8, .string ⟨#[116]⟩, .string ⟨#[99]⟩, .slice none 0 0, .slice none 0 0, .slice none 0 0, .slice none 0 0, .bool false, .int .i64 2, .slice none 0 0] 45)
      rw [hW4]
      simpa using this
    have HX4 := Aside0.mk hx4
    have HS4 := Aside0.mk hs4
    have HB4 := Aside0.mk (below_then HB1.out HB1.out.size hb4)
    have hk2 : k45.K W4 sC [.int .i64 8, .string ⟨#[116]⟩, .string ⟨#[99]⟩, .slice none 0 0, .slice none 0 0, .slice none 0 0, .slice none 0 0, .bool false, .int .i64 2, .slice none 0 0] := k45_mk _ sC (Nat.le_refl _) (nil_C _ _) (Nat.le_refl _) (nil_C _ _) (Nat.le_refl _) (nil_C _ _) (Nat.le_refl _) (nil_C _ _) (Nat.le_refl _) (nil_C _ _)
    have H2 := Lib.hid (begin_of 63 addColP addColumn_upd 1 [tT [] 3] 2 sC (.inr (.inl ⟨rfl, rfl⟩)) (by decide) (awake_val _ _) A1 c1 W4 l1' (Kd.C_below g1' hb4) _ hk2 sC_ok)
    rw [begin8, hW4] at H2
    have HW4 := Lib.hid hW4
    clear hb4 hx4 hs4 hk2 g1' hW4
    go_wp2_with fail
    refine H2.out.mono ?_
    rw [← HW4.out]
    rintro e w2 ⟨A2, c2, he, r2, hb2⟩
    have he' : e = .returned (.tuple #[.agg #[.int .i64 2, .slice A2 1 c2, .int .i64 2], .int .i64 1, .int .i64 3, .int .i64 0]) := he
    subst he'
    have r2' : k70.R 70 w2 _ (fun _ => True) (.slice A2 1 c2) [tabE 8 1] := r2
    have HB5 := Aside0.mk (below_then HB4.out HB4.out.size hb2)
    have hx5 := blk_below HX4.out hb2
    have hs5 := blk_below HS4.out hb2
    clear he r2 hb2 H2 HW4
    have a0 := blk_cell (j := 0) (v := .int .i64 1) hx5 rfl
    have a1 := blk_cell (j := 1) (v := .slice A1 1 c1) hx5 rfl
    have a2 := blk_cell (j := 2) (v := .int .i64 2) hx5 rfl
    have f0 := blk_frozen hx5 0
    have f1 := blk_frozen hx5 1
    have f2 := blk_frozen hx5 2
    have s0 := blk_cell (j := 0) (v := .int .i64 8) hs5 rfl
    have hl1 : w.heap.size ≤ w1.heap.size := HB1.out.size
    have hne : w1.heap.size + 1 + 1 + 1 ≠ w1.heap.size := by omega
    have hne' : w1.heap.size ≠ w1.heap.size + 1 + 1 + 1 := by omega
    have hxl : w1.heap.size < w2.heap.size := lt_of_block hx5
    obtain ⟨W6, hW6⟩ : ∃ W6, W6 = ((w2.setCell ⟨w1.heap.size, 0, none⟩ (.int .i64 2)).setCell ⟨w1.heap.size, 1, none⟩ (.slice A2 1 c2)).setCell ⟨w1.heap.size, 2, none⟩ (.int .i64 2) := ⟨_, rfl⟩
    have hx6 : W6.heap[w1.heap.size]? = some (.cells #[.int .i64 2, .slice A2 1 c2, .int .i64 2] 28 (0, 0)) := by rw [hW6]; exact blk_put (blk_put (blk_put hx5 0 _ rfl) 1 _ rfl) 2 _ rfl
    have hs6 := blk_far (blk_far (blk_far hs5 (p := ⟨w1.heap.size, 0, none⟩) hne (.int .i64 2)) (p := ⟨w1.heap.size, 1, none⟩) hne (.slice A2 1 c2)) (p := ⟨w1.heap.size, 2, none⟩) hne (.int .i64 2)
    have hr6 := R_set3 (a := .int .i64 2) (b := .slice A2 1 c2) (c := .int .i64 2) r2' hx5
    have hb6 : Below w.heap.size w W6 := by
      rw [hW6]
      exact ((HB5.out.setCell (p := ⟨w1.heap.size, 0, none⟩) hl1 _).setCell (p := ⟨w1.heap.size, 1, none⟩) hl1 _).setCell (p := ⟨w1.heap.size, 2, none⟩) hl1 _
    rw [← hW6] at hs6 hr6
    have hb7 := below_alloc (Below.refl _ W6) (.cells #[.int .i64 1, .int .i64 8, .int .i64 1, .int .i64 3, .int .i64 1, .bool false, .string ⟨#[]⟩, .bool false] 23)
    have HJ : Aside0 (JE w (W6.alloc (.cells #[.int .i64 1, .int .i64 8, .int .i64 1, .int .i64 3, .int .i64 1, .bool false, .string ⟨#[]⟩, .bool false] 23)) w1.heap.size (w1.heap.size + 1 + 1 + 1) W6.heap.size 8 3 2 1 1 false) :=
      ⟨⟨below_then hb6 hb6.size hb7, hl1, hb6.size, ⟨A2, c2, blk_below hx6 hb7, Kd.R_below (Kd.R_lower hr6 (Nat.le_trans HB4.out.size (Nat.le_refl _))) hb7⟩, ⟨_, blk_below hs6 hb7, rfl⟩, heap_alloc_new W6 _⟩⟩
    have hz6 : W6.heap.size = w2.heap.size := by rw [hW6]; simp [World.setCell]
    rw [hz6] at HJ
    have HKE := Lib.hid (show KE 8 from by first | exact .inl rfl | exact .inr (.inl rfl) | exact .inr (.inr rfl))
    have HEL := Lib.hid (show elE 8 = 3 from rfl)
    clear hx6 hs6 hr6 hb6 hb7 hz6 hs5 hx5 r2' HB4 HX4 HS4
    rw [hW6] at HJ
    clear hW6
    go_wp2_with fail
    clear a0 a1 a2 f0 f1 f2 s0 hl1 hne hne' hxl HB5
    go_loopg [10, 12, 13] (2 * top + 1) (fun gg u10 u12 u13 wr => ∃ p n : Nat, ∃ r : Bool, p ≤ top ∧ (r = true → p = 1) ∧ n ≤ 2 * p + (if r = true then 1 else 0) ∧ 2 * (top - p) + (if r = true then 0 else 1) ≤ gg ∧ u10 = .int .i64 0 ∧ u12 = .int .i64 p ∧ u13 = .int .i64 n ∧ Aside0 (JE w wr w1.heap.size (w1.heap.size + 1 + 1 + 1) w2.heap.size 8 3 (2 + (p : Int)) (1 + (p : Int)) 1 r))
    case atStart => exact ⟨0, 0, false, Nat.zero_le _, by simp, by simp, by simp, rfl, rfl, rfl, HJ⟩
    case round =>
      clear HJ
      obtain ⟨p, n, r, hp, hrp, hn, hg, rfl, rfl, rfl, HJ⟩ := hrel
      have hr1 : (if r = true then 1 else 0) ≤ 1 := by split <;> omega
      have hn20 : (n : Int) < 20 := by omega
      obtain ⟨A, c, hx, hR⟩ := HJ.out.x
      obtain ⟨-, lc, hC⟩ := Kd.R_reads' hR
      obtain ⟨cs, hs, hs0⟩ := HJ.out.s
      have x0 := blk_cell (j := 0) (v := .int .i64 (2 + (p : Int))) hx rfl
      have x1 := blk_cell (j := 1) (v := .slice A 1 c) hx rfl
      have x2 := blk_cell (j := 2) (v := .int .i64 2) hx rfl
      have s0 := blk_cell (j := 0) hs hs0
      have HCALL := Lib.hid (est_calls HKE.out HEL.out (show 1 ≤ 1 + (p : Int) ∧ 1 + (p : Int) ≤ 4 by omega) (show 0 ≤ 2 + (p : Int) ∧ 2 + (p : Int) < 1000 by omega) lc hC)
      clear hx hR hC hs hs0 hr1
      go_wp2_with fail
      refine HCALL.out.mono ?_
      rintro e w3 ⟨rfl, hb3⟩
      have HJ3 := Aside0.mk (HJ.out.step hb3)
      clear hb3 x0 x1 x2 s0 HCALL HJ
      by_cases hpt : p = top
      · have hq : ((1 + (p : Int)) == (1 + frm % 4)) = true := by rw [HF.out, hpt]; simp
        subst hpt
        have y4 := blk_cell (j := 4) (v := .int .i64 1) HJ3.out.j rfl
        have y5 := blk_cell (j := 5) (v := .bool r) HJ3.out.j rfl
        have f4 := blk_frozen HJ3.out.j 4
        have f5 := blk_frozen HJ3.out.j 5
        have HJ4 := Aside0.mk ((HJ3.out.setHow 2).setRd false)
        clear HJ3
        go_wp2_with fail
        clear y4 y5 f4 f5
        generalize (w3.setCell ⟨w2.heap.size, 4, none⟩ (.int .i64 2)).setCell ⟨w2.heap.size, 5, none⟩ (.bool false) = w4 at HJ4 ⊢
        go_loopg [10, 16, 17, 18] (2 * (p + 1) + 1) (fun gg u10 u16 u17 u18 wr => ∃ d n : Nat, ∃ r : Bool, ∃ pu : Int, (r = true → pu = 1) ∧ (r = false → pu = 0) ∧ d ≤ p + 1 ∧ (r = true → p ≤ d) ∧ (r = false → d ≤ p) ∧ n ≤ d + (if r = true then 1 else 0) ∧ 2 * (p + 1 - d) + (if r = true then 0 else 1) ≤ gg ∧ u10 = .int .i64 0 ∧ u16 = .int .i64 d ∧ u17 = .int .i64 pu ∧ u18 = .int .i64 n ∧ Aside0 (JE w wr w1.heap.size (w1.heap.size + 1 + 1 + 1) w2.heap.size 8 3 (2 + (p : Int) + (d : Int)) (1 + (p : Int) - (d : Int)) 2 r))
        case atStart => exact ⟨0, 0, false, 0, by simp, by simp, Nat.zero_le _, by simp, fun _ => Nat.zero_le _, by simp, by simp, rfl, rfl, rfl, rfl, ⟨by have := HJ4.out; simpa using this⟩⟩
        case round =>
          clear HJ4
          obtain ⟨d, n, r, pu, hp1, hp0, hd, hrt, hrf, hn, hg, rfl, rfl, rfl, rfl, HJ⟩ := hrel
          have hr1 : (if r = true then 1 else 0) ≤ 1 := by split <;> omega
          have hn20 : (n : Int) < 20 := by omega
          obtain ⟨A, c, hx, hR⟩ := HJ.out.x
          obtain ⟨-, lc, hC⟩ := Kd.R_reads' hR
          obtain ⟨cs, hs, hs0⟩ := HJ.out.s
          have x0 := blk_cell (j := 0) (v := .int .i64 (2 + (p : Int) + (d : Int))) hx rfl
          have x1 := blk_cell (j := 1) (v := .slice A 1 c) hx rfl
          have x2 := blk_cell (j := 2) (v := .int .i64 2) hx rfl
          have s0 := blk_cell (j := 0) hs hs0
          by_cases hdt : d = p + 1
          · obtain rfl : r = true := by cases r; exact absurd (hrf rfl) (by omega); rfl
            obtain rfl : pu = 1 := hp1 rfl
            have hst : 1 + (p : Int) - (d : Int) = 0 := by omega
            rw [hst] at hC
            have HCALL := Lib.hid (est0_calls HKE.out HEL.out (show 0 ≤ 2 + (p : Int) + (d : Int) ∧ 2 + (p : Int) + (d : Int) < 1000 by omega) lc hC)
            have HDT := Lib.hid hdt
            clear hx hR hC hs hs0 hr1 hst hp1 hp0 hn hrt hrf hg hdt hd hq
            go_wp2_with fail
            refine HCALL.out.mono ?_
            rintro e w5 ⟨z, hz0, rfl, hb5⟩
            have hz1 : decide (0 < z) = false := decide_eq_false (by omega)
            have hq2 : ((p : Int) == frm % 4) = true := by rw [HF.out]; simp
            have hq3 : ((d : Int) == (p : Int) + 1) = true := by rw [HDT.out]; simp
            have HJ5 := Aside0.mk (HJ.out.step hb5)
            clear hb5 x0 x1 x2 s0 HCALL HJ hz0 hn20
            go_wp2_with fail
            refine (awake24_calls _ (HG.out.of_below HJ5.out.below)).mono ?_
            rintro e w6 ⟨rfl, hb6⟩
            have HB6 := Aside0.mk (below_then HJ5.out.below HJ5.out.below.size hb6)
            clear hb6
            go_wp2
            go_ret
            exact ⟨rfl, HB6.out⟩
          · have hs1 : 0 < 1 + (p : Int) - (d : Int) := by omega
            have HCALL := Lib.hid (est_calls HKE.out HEL.out (show 1 ≤ 1 + (p : Int) - (d : Int) ∧ 1 + (p : Int) - (d : Int) ≤ 4 by omega) (show 0 ≤ 2 + (p : Int) + (d : Int) ∧ 2 + (p : Int) + (d : Int) < 1000 by omega) lc hC)
            clear hx hR hC hs hs0 hr1
            go_wp2_with fail
            refine HCALL.out.mono ?_
            rintro e w5 ⟨rfl, hb5⟩
            have HJ5 := Aside0.mk (HJ.out.step hb5)
            clear hb5 x0 x1 x2 s0 HCALL HJ
            obtain ⟨A, c, hx, hR⟩ := HJ5.out.x
            obtain ⟨-, lc, hC⟩ := Kd.R_reads' hR
            obtain ⟨cs, hs, hs0⟩ := HJ5.out.s
            have x0 := blk_cell (j := 0) (v := .int .i64 (2 + (p : Int) + (d : Int))) hx rfl
            have x1 := blk_cell (j := 1) (v := .slice A 1 c) hx rfl
            have x2 := blk_cell (j := 2) (v := .int .i64 2) hx rfl
            have s0 := blk_cell (j := 0) hs hs0
            have y0 := blk_cell (j := 0) (v := .int .i64 1) HJ5.out.j rfl
            have y1 := blk_cell (j := 1) (v := .int .i64 8) HJ5.out.j rfl
            have y2 := blk_cell (j := 2) (v := .int .i64 1) HJ5.out.j rfl
            have y3 := blk_cell (j := 3) (v := .int .i64 3) HJ5.out.j rfl
            have y4 := blk_cell (j := 4) (v := .int .i64 2) HJ5.out.j rfl
            have y5 := blk_cell (j := 5) (v := .bool r) HJ5.out.j rfl
            have y6 := blk_cell (j := 6) (v := .string ⟨#[]⟩) HJ5.out.j rfl
            have y7 := blk_cell (j := 7) (v := .bool false) HJ5.out.j rfl
            have HCALL := Lib.hid (enx_calls HKE.out HEL.out (show 1 ≤ 1 + (p : Int) - (d : Int) ∧ 1 + (p : Int) - (d : Int) ≤ 4 by omega) (show 0 ≤ 2 + (p : Int) + (d : Int) ∧ 2 + (p : Int) + (d : Int) < 1000 by omega) (.inr rfl) r (HG.out.of_below HJ5.out.below) lc hC)
            have hN : (d = p ∧ r = false ∧ nextP 2 r (1 + (p : Int) - (d : Int)) = (4, 0)) ∨ (¬ (d = p ∧ r = false) ∧ nextP 2 r (1 + (p : Int) - (d : Int)) = (3, 0)) := by
              unfold nextP
              rw [if_neg (by omega), if_neg (by omega), if_neg (by omega), if_neg (by omega)]
              by_cases hdr : d = p ∧ r = false
              · exact .inl ⟨hdr.1, hdr.2, if_pos ⟨by omega, hdr.2⟩⟩
              · exact .inr ⟨hdr, if_neg (fun h => hdr ⟨by omega, h.2⟩)⟩
            clear hx hR hC hs hs0
            go_wp2_with fail
            refine HCALL.out.mono ?_
            rintro e w6 ⟨rfl, hb6⟩
            have HJ6 := Aside0.mk (HJ5.out.step hb6)
            clear hb6 x0 x1 x2 s0 y0 y1 y2 y3 y4 y5 y6 y7 HCALL HJ5
            rcases hN with ⟨rfl, rfl, hN⟩ | ⟨hno, hN⟩
            · rw [hN]
              have y5 := blk_cell (j := 5) (v := .bool false) HJ6.out.j rfl
              have f5 := blk_frozen HJ6.out.j 5
              have HJ7 := Aside0.mk (HJ6.out.setRd true)
              clear HJ6
              go_wp2_with (go_at_call 28; refine (num24_calls _ _).mono ?_; rintro e w' ⟨rfl, rfl⟩)
              go_roundg (2 * (d + 1 - d))
              case measure => simp at hg; omega
              case rel => exact ⟨d, n + 1, true, 1, by simp, by simp, by omega, fun _ => Nat.le_refl _, by simp, by simp at hn ⊢; omega, by simp, rfl, rfl, by go_num, by go_num, HJ7⟩
            · rw [hN]
              obtain ⟨A, c, hx, hR⟩ := HJ6.out.x
              obtain ⟨-, lc, hC⟩ := Kd.R_reads' hR
              obtain ⟨cs, hs, hs0⟩ := HJ6.out.s
              have x0 := blk_cell (j := 0) (v := .int .i64 (2 + (p : Int) + (d : Int))) hx rfl
              have x1 := blk_cell (j := 1) (v := .slice A 1 c) hx rfl
              have x2 := blk_cell (j := 2) (v := .int .i64 2) hx rfl
              have s0 := blk_cell (j := 0) hs hs0
              have HCALL := Lib.hid (edn_calls HKE.out HEL.out (show 1 ≤ 1 + (p : Int) - (d : Int) ∧ 1 + (p : Int) - (d : Int) ≤ 4 by omega) (show 0 ≤ 2 + (p : Int) + (d : Int) ∧ 2 + (p : Int) + (d : Int) < 1000 by omega) lc hC)
              rw [show 2 + (p : Int) + (d : Int) + 1 = 2 + (p : Int) + ((d + 1 : Nat) : Int) by omega, show 1 + (p : Int) - (d : Int) - 1 = 1 + (p : Int) - ((d + 1 : Nat) : Int) by omega] at HCALL
              clear hx hR hC hs hs0
              go_wp2_with (first | (go_at_call 28; refine (num24_calls _ _).mono ?_; rintro e w' ⟨rfl, rfl⟩))
              refine HCALL.out.mono ?_
              rintro e w7 ⟨A6, c6, rfl, hR6, hb7⟩
              have HJ7 := Aside0.mk (HJ6.out.step hb7)
              have HJ8 := Aside0.mk (HJ7.out.setX (v' := 2 + (p : Int) + ((d + 1 : Nat) : Int)) HJ6.out.below.size hR6)
              clear hb7 hR6 x0 x1 x2 s0 HCALL HJ6
              obtain ⟨A, c, hx, -⟩ := HJ7.out.x
              have x0 := blk_cell (j := 0) (v := .int .i64 (2 + (p : Int) + (d : Int))) hx rfl
              have x1 := blk_cell (j := 1) (v := .slice A 1 c) hx rfl
              have x2 := blk_cell (j := 2) (v := .int .i64 2) hx rfl
              have f0 := blk_frozen hx 0
              have f1 := blk_frozen hx 1
              have f2 := blk_frozen hx 2
              clear hx HJ7
              go_wp2_with fail
              go_roundg (2 * (p + 1 - (d + 1)) + (if r = true then 0 else 1))
              case measure => cases r <;> simp at hg ⊢ <;> omega
              case rel => exact ⟨d + 1, n + 1, r, pu, hp1, hp0, by omega, fun h => by have := hrt h; omega, fun h => by have : d ≠ p := fun e => hno ⟨e, h⟩; omega, by omega, Nat.le_refl _, rfl, by go_num, rfl, by go_num, HJ8⟩
      · have hq : ((1 + (p : Int)) == (1 + frm % 4)) = false := by
          rw [HF.out]
          have : (1 + (p : Int)) ≠ 1 + (top : Int) := by omega
          simpa using this
        obtain ⟨A, c, hx, hR⟩ := HJ3.out.x
        obtain ⟨-, lc, hC⟩ := Kd.R_reads' hR
        obtain ⟨cs, hs, hs0⟩ := HJ3.out.s
        have x0 := blk_cell (j := 0) (v := .int .i64 (2 + (p : Int))) hx rfl
        have x1 := blk_cell (j := 1) (v := .slice A 1 c) hx rfl
        have x2 := blk_cell (j := 2) (v := .int .i64 2) hx rfl
        have s0 := blk_cell (j := 0) hs hs0
        have y0 := blk_cell (j := 0) (v := .int .i64 1) HJ3.out.j rfl
        have y1 := blk_cell (j := 1) (v := .int .i64 8) HJ3.out.j rfl
        have y2 := blk_cell (j := 2) (v := .int .i64 1) HJ3.out.j rfl
        have y3 := blk_cell (j := 3) (v := .int .i64 3) HJ3.out.j rfl
        have y4 := blk_cell (j := 4) (v := .int .i64 1) HJ3.out.j rfl
        have y5 := blk_cell (j := 5) (v := .bool r) HJ3.out.j rfl
        have y6 := blk_cell (j := 6) (v := .string ⟨#[]⟩) HJ3.out.j rfl
        have y7 := blk_cell (j := 7) (v := .bool false) HJ3.out.j rfl
        have HCALL := Lib.hid (enx_calls HKE.out HEL.out (show 1 ≤ 1 + (p : Int) ∧ 1 + (p : Int) ≤ 4 by omega) (show 0 ≤ 2 + (p : Int) ∧ 2 + (p : Int) < 1000 by omega) (.inl rfl) r (HG.out.of_below HJ3.out.below) lc hC)
        have hN : (p = 1 ∧ r = false ∧ nextP 1 r (1 + (p : Int)) = (2, 0)) ∨ (¬ (p = 1 ∧ r = false) ∧ nextP 1 r (1 + (p : Int)) = (1, 0)) := by
          have h3 : p = 0 ∨ p = 1 ∨ p = 2 := by omega
          rcases h3 with rfl | rfl | rfl <;> cases r
          · exact .inr ⟨by simp, rfl⟩
          · exact .inr ⟨by simp, rfl⟩
          · exact .inl ⟨rfl, rfl, rfl⟩
          · exact .inr ⟨by simp, rfl⟩
          · exact .inr ⟨by simp, rfl⟩
          · exact .inr ⟨by simp, rfl⟩
        clear hx hR hC hs hs0
        go_wp2_with fail
        refine HCALL.out.mono ?_
        rintro e w4 ⟨rfl, hb4⟩
        have HJ4 := Aside0.mk (HJ3.out.step hb4)
        clear hb4 x0 x1 x2 s0 y0 y1 y2 y3 y4 y5 y6 y7 HCALL HJ3
        rcases hN with ⟨rfl, rfl, hN⟩ | ⟨hno, hN⟩
        · rw [hN]
          have y5 := blk_cell (j := 5) (v := .bool false) HJ4.out.j rfl
          have f5 := blk_frozen HJ4.out.j 5
          have HJ5 := Aside0.mk (HJ4.out.setRd true)
          clear HJ4
          go_wp2_with (go_at_call 28; refine (num24_calls _ _).mono ?_; rintro e w' ⟨rfl, rfl⟩)
          go_roundg (2 * (top - 1))
          case measure => simp at hg; omega
          case rel => exact ⟨1, n + 1, true, by omega, fun _ => rfl, by simp at hn ⊢; omega, by simp, rfl, rfl, by go_num, HJ5⟩
        · rw [hN]
          have y5 := blk_cell (j := 5) (v := .bool r) HJ4.out.j rfl
          have f5 := blk_frozen HJ4.out.j 5
          have HJ5 := Aside0.mk (HJ4.out.setRd false)
          have HW5 : Aside0 (∃ W5, W5 = w4.setCell ⟨w2.heap.size, 5, none⟩ (.bool false)) := ⟨⟨_, rfl⟩⟩
          obtain ⟨W5, hW5⟩ := HW5.out
          rw [← hW5] at HJ5
          obtain ⟨A, c, hx, hR⟩ := HJ5.out.x
          obtain ⟨-, lc, hC⟩ := Kd.R_reads' hR
          obtain ⟨cs, hs, hs0⟩ := HJ5.out.s
          have x0 := blk_cell (j := 0) (v := .int .i64 (2 + (p : Int))) hx rfl
          have x1 := blk_cell (j := 1) (v := .slice A 1 c) hx rfl
          have x2 := blk_cell (j := 2) (v := .int .i64 2) hx rfl
          have s0 := blk_cell (j := 0) hs hs0
          have HCALL := Lib.hid (eup_calls HKE.out HEL.out (show 1 ≤ 1 + (p : Int) ∧ 1 + (p : Int) ≤ 3 by omega) (show 0 ≤ 2 + (p : Int) ∧ 2 + (p : Int) < 1000 by omega) lc hC)
          rw [show 2 + (p : Int) + 1 = 2 + ((p + 1 : Nat) : Int) by omega, show 1 + (p : Int) + 1 = 1 + ((p + 1 : Nat) : Int) by omega] at HCALL
          rw [hW5] at HCALL x0 x1 x2 s0
          have HW5 := Lib.hid hW5
          clear hx hR hC hs hs0 hW5
          go_wp2_with (go_at_call 28; refine (num24_calls _ _).mono ?_; rintro e w' ⟨rfl, rfl⟩)
          refine HCALL.out.mono ?_
          rw [← HW5.out]
          rintro e w6 ⟨A6, c6, rfl, hR6, hb6⟩
          have HJ6 := Aside0.mk (HJ5.out.step hb6)
          have HJ7 := Aside0.mk (HJ6.out.setX (v' := 2 + ((p + 1 : Nat) : Int)) HJ5.out.below.size hR6)
          clear hb6 hR6 x0 x1 x2 s0 y5 f5 HCALL HJ5 HW5 HJ4
          obtain ⟨A, c, hx, -⟩ := HJ6.out.x
          have x0 := blk_cell (j := 0) (v := .int .i64 (2 + (p : Int))) hx rfl
          have x1 := blk_cell (j := 1) (v := .slice A 1 c) hx rfl
          have x2 := blk_cell (j := 2) (v := .int .i64 2) hx rfl
          have f0 := blk_frozen hx 0
          have f1 := blk_frozen hx 1
          have f2 := blk_frozen hx 2
          clear hx HJ6
          go_wp2_with fail
          go_roundg (2 * (top - (p + 1)) + 1)
          case measure => cases r <;> simp at hg <;> omega
          case rel => exact ⟨p + 1, n + 1, false, by omega, by simp, by cases r <;> simp at hn ⊢ <;> omega, by simp, rfl, by go_num, by go_num, HJ7⟩
  · obtain ⟨W4, hW4⟩ : ∃ W4, W4 = (((w1.alloc (.cells #[.int .i64 1, .slice A1 1 c1, .int .i64 2] 28)).alloc (.cells #[.string ⟨#[98]⟩] 9)).alloc (.cells #[.int .i64 6, .string ⟨#[116]⟩, .string ⟨#[105]⟩, .slice (some ⟨w1.heap.size + 1, 0, none⟩) 1 1, .slice none 0 0, .slice none 0 0, .slice none 0 0, .bool false, .int .i64 0, .slice none 0 0, .int .i64 8, .string ⟨#[116]⟩, .string ⟨#[99]⟩, .slice none 0 0, .slice none 0 0, .slice none 0 0, .slice none 0 0, .bool false, .int .i64 2, .slice none 0 0, .int .i64 10, .string ⟨#[116]⟩, .string ⟨#[98]⟩, .slice none 0 0, .slice none 0 0, .slice none 0 0, .slice none 0 0, .bool false, .int .i64 0, .slice none 0 0] 45)).alloc (.cells #[.int .i64 10, .string ⟨#[116]⟩, .string ⟨#[98]⟩, .slice none 0 0, .slice none 0 0, .slice none 0 0, .slice none 0 0, .bool false, .int .i64 0, .slice none 0 0] 45) := ⟨_, rfl⟩
    have hb4 : Below w1.heap.size w1 W4 := by rw [hW4]; exact below_alloc (below_alloc (below_alloc (below_alloc (Below.refl _ _) _) _) _) _
    have hx4 : W4.heap[w1.heap.size]? = some (.cells #[.int .i64 1, .slice A1 1 c1, .int .i64 2] 28 (0, 0)) := by rw [hW4]; exact blk_alloc (blk_alloc (blk_alloc (heap_alloc_new w1 _) _) _) _
    have hs4 : W4.heap[w1.heap.size + 1 + 1 + 1]? = some (.cells #[.int .i64 10, .string ⟨#[116]⟩, .string ⟨#[98]⟩, .slice none 0 0, .slice none 0 0, .slice none 0 0, .slice none 0 0, .bool false, .int .i64 0, .slice none 0 0] 45 (0, 0)) := by
      have := heap_alloc_new (((w1.alloc (.cells #[.int .i64 1, .slice A1 1 c1, .int .i64 2] 28)).alloc (.cells #[.string ⟨#[98]⟩] 9)).alloc (.cells #[.int .i64 6, .string ⟨#[116]⟩, .string ⟨#[105]⟩, .slice (some ⟨w1.heap.size + 1, 0, none⟩) 1 1, .slice none 0 0, .slice none 0 0, .slice none 0 0, .bool false, .int .i64 0, .slice none 0 0, .int .i64 8, .string ⟨#[116]⟩, .string ⟨#[99]⟩, .slice none 0 0, .slice none 0 0, .slice none 0 0, .slice none 0 0, .bool false, .int .i64 2, .slice none 0 0, .int .i64 10, .string ⟨#[116]⟩, .string ⟨#[98]⟩, .slice none 0 0, .slice none 0 0, .slice none 0 0, .slice none 0 0, .bool false, .int .i64 0, .slice none 0 0] 45)) (.cells #[.int .i64 10, .string ⟨#[116]⟩, .string ⟨#[98]⟩, .slice none 0 0, .slice none 0 0, .slice none 0 0, .slice none 0 0, .bool false, .int .i64 0, .slice none 0 0] 45)
      rw [hW4]
      simpa using this
    have HX4 := Aside0.mk hx4
    have HS4 := Aside0.mk hs4
    have HB4 := Aside0.mk (below_then HB1.out HB1.out.size hb4)
    have hk2 : k45.K W4 sN [.int .i64 10, .string ⟨#[116]⟩, .string ⟨#[98]⟩, .slice none 0 0, .slice none 0 0, .slice none 0 0, .slice none 0 0, .bool false, .int .i64 0, .slice none 0 0] := k45_mk _ sN (Nat.le_refl _) (nil_C _ _) (Nat.le_refl _) (nil_C _ _) (Nat.le_refl _) (nil_C _ _) (Nat.le_refl _) (nil_C _ _) (Nat.le_refl _) (nil_C _ _)
    have H2 := Lib.hid (begin_of 64 dropP drop_upd 1 [tT [] 3] 2 sN (.inr (.inr ⟨by decide, by decide, rfl⟩)) (by decide) (awake_val _ _) A1 c1 W4 l1' (Kd.C_below g1' hb4) _ hk2 sN_ok)
    rw [begin10, hW4] at H2
    have HW4 := Lib.hid hW4
    clear hb4 hx4 hs4 hk2 g1' hW4
    go_wp2_with fail
    refine H2.out.mono ?_
    rw [← HW4.out]
    rintro e w2 ⟨A2, c2, he, r2, hb2⟩
    have he' : e = .returned (.tuple #[.agg #[.int .i64 2, .slice A2 1 c2, .int .i64 2], .int .i64 1, .int .i64 2, .int .i64 0]) := he
    subst he'
    have r2' : k70.R 70 w2 _ (fun _ => True) (.slice A2 1 c2) [tabE 10 1] := r2
    have HB5 := Aside0.mk (below_then HB4.out HB4.out.size hb2)
    have hx5 := blk_below HX4.out hb2
    have hs5 := blk_below HS4.out hb2
    clear he r2 hb2 H2 HW4
    have a0 := blk_cell (j := 0) (v := .int .i64 1) hx5 rfl
    have a1 := blk_cell (j := 1) (v := .slice A1 1 c1) hx5 rfl
    have a2 := blk_cell (j := 2) (v := .int .i64 2) hx5 rfl
    have f0 := blk_frozen hx5 0
    have f1 := blk_frozen hx5 1
    have f2 := blk_frozen hx5 2
    have s0 := blk_cell (j := 0) (v := .int .i64 10) hs5 rfl
    have hl1 : w.heap.size ≤ w1.heap.size := HB1.out.size
    have hne : w1.heap.size + 1 + 1 + 1 ≠ w1.heap.size := by omega
    have hne' : w1.heap.size ≠ w1.heap.size + 1 + 1 + 1 := by omega
    have hxl : w1.heap.size < w2.heap.size := lt_of_block hx5
    obtain ⟨W6, hW6⟩ : ∃ W6, W6 = ((w2.setCell ⟨w1.heap.size, 0, none⟩ (.int .i64 2)).setCell ⟨w1.heap.size, 1, none⟩ (.slice A2 1 c2)).setCell ⟨w1.heap.size, 2, none⟩ (.int .i64 2) := ⟨_, rfl⟩
    have hx6 : W6.heap[w1.heap.size]? = some (.cells #[.int .i64 2, .slice A2 1 c2, .int .i64 2] 28 (0, 0)) := by rw [hW6]; exact blk_put (blk_put (blk_put hx5 0 _ rfl) 1 _ rfl) 2 _ rfl
    have hs6 := blk_far (blk_far (blk_far hs5 (p := ⟨w1.heap.size, 0, none⟩) hne (.int .i64 2)) (p := ⟨w1.heap.size, 1, none⟩) hne (.slice A2 1 c2)) (p := ⟨w1.heap.size, 2, none⟩) hne (.int .i64 2)
    have hr6 := R_set3 (a := .int .i64 2) (b := .slice A2 1 c2) (c := .int .i64 2) r2' hx5
    have hb6 : Below w.heap.size w W6 := by
      rw [hW6]
      exact ((HB5.out.setCell (p := ⟨w1.heap.size, 0, none⟩) hl1 _).setCell (p := ⟨w1.heap.size, 1, none⟩) hl1 _).setCell (p := ⟨w1.heap.size, 2, none⟩) hl1 _
    rw [← hW6] at hs6 hr6
    have hb7 := below_alloc (Below.refl _ W6) (.cells #[.int .i64 1, .int .i64 10, .int .i64 1, .int .i64 2, .int .i64 1, .bool false, .string ⟨#[]⟩, .bool false] 23)
    have HJ : Aside0 (JE w (W6.alloc (.cells #[.int .i64 1, .int .i64 10, .int .i64 1, .int .i64 2, .int .i64 1, .bool false, .string ⟨#[]⟩, .bool false] 23)) w1.heap.size (w1.heap.size + 1 + 1 + 1) W6.heap.size 10 2 2 1 1 false) :=
      ⟨⟨below_then hb6 hb6.size hb7, hl1, hb6.size, ⟨A2, c2, blk_below hx6 hb7, Kd.R_below (Kd.R_lower hr6 (Nat.le_trans HB4.out.size (Nat.le_refl _))) hb7⟩, ⟨_, blk_below hs6 hb7, rfl⟩, heap_alloc_new W6 _⟩⟩
    have hz6 : W6.heap.size = w2.heap.size := by rw [hW6]; simp [World.setCell]
    rw [hz6] at HJ
    have HKE := Lib.hid (show KE 10 from by first | exact .inl rfl | exact .inr (.inl rfl) | exact .inr (.inr rfl))
    have HEL := Lib.hid (show elE 10 = 2 from rfl)
    clear hx6 hs6 hr6 hb6 hb7 hz6 hs5 hx5 r2' HB4 HX4 HS4
    rw [hW6] at HJ
    clear hW6
    go_wp2_with fail
    clear a0 a1 a2 f0 f1 f2 s0 hl1 hne hne' hxl HB5
    go_loopg [10, 12, 13] (2 * top + 1) (fun gg u10 u12 u13 wr => ∃ p n : Nat, ∃ r : Bool, p ≤ top ∧ (r = true → p = 1) ∧ n ≤ 2 * p + (if r = true then 1 else 0) ∧ 2 * (top - p) + (if r = true then 0 else 1) ≤ gg ∧ u10 = .int .i64 0 ∧ u12 = .int .i64 p ∧ u13 = .int .i64 n ∧ Aside0 (JE w wr w1.heap.size (w1.heap.size + 1 + 1 + 1) w2.heap.size 10 2 (2 + (p : Int)) (1 + (p : Int)) 1 r))
    case atStart => exact ⟨0, 0, false, Nat.zero_le _, by simp, by simp, by simp, rfl, rfl, rfl, HJ⟩
    case round =>
      clear HJ
      obtain ⟨p, n, r, hp, hrp, hn, hg, rfl, rfl, rfl, HJ⟩ := hrel
      have hr1 : (if r = true then 1 else 0) ≤ 1 := by split <;> omega
      have hn20 : (n : Int) < 20 := by omega
      obtain ⟨A, c, hx, hR⟩ := HJ.out.x
      obtain ⟨-, lc, hC⟩ := Kd.R_reads' hR
      obtain ⟨cs, hs, hs0⟩ := HJ.out.s
      have x0 := blk_cell (j := 0) (v := .int .i64 (2 + (p : Int))) hx rfl
      have x1 := blk_cell (j := 1) (v := .slice A 1 c) hx rfl
      have x2 := blk_cell (j := 2) (v := .int .i64 2) hx rfl
      have s0 := blk_cell (j := 0) hs hs0
      have HCALL := Lib.hid (est_calls HKE.out HEL.out (show 1 ≤ 1 + (p : Int) ∧ 1 + (p : Int) ≤ 4 by omega) (show 0 ≤ 2 + (p : Int) ∧ 2 + (p : Int) < 1000 by omega) lc hC)
      clear hx hR hC hs hs0 hr1
      go_wp2_with fail
      refine HCALL.out.mono ?_
      rintro e w3 ⟨rfl, hb3⟩
      have HJ3 := Aside0.mk (HJ.out.step hb3)
      clear hb3 x0 x1 x2 s0 HCALL HJ
      by_cases hpt : p = top
      · have hq : ((1 + (p : Int)) == (1 + frm % 4)) = true := by rw [HF.out, hpt]; simp
        subst hpt
        have y4 := blk_cell (j := 4) (v := .int .i64 1) HJ3.out.j rfl
        have y5 := blk_cell (j := 5) (v := .bool r) HJ3.out.j rfl
        have f4 := blk_frozen HJ3.out.j 4
        have f5 := blk_frozen HJ3.out.j 5
        have HJ4 := Aside0.mk ((HJ3.out.setHow 2).setRd false)
        clear HJ3
        go_wp2_with fail
        clear y4 y5 f4 f5
        generalize (w3.setCell ⟨w2.heap.size, 4, none⟩ (.int .i64 2)).setCell ⟨w2.heap.size, 5, none⟩ (.bool false) = w4 at HJ4 ⊢
        go_loopg [10, 16, 17, 18] (2 * (p + 1) + 1) (fun gg u10 u16 u17 u18 wr => ∃ d n : Nat, ∃ r : Bool, ∃ pu : Int, (r = true → pu = 1) ∧ (r = false → pu = 0) ∧ d ≤ p + 1 ∧ (r = true → p ≤ d) ∧ (r = false → d ≤ p) ∧ n ≤ d + (if r = true then 1 else 0) ∧ 2 * (p + 1 - d) + (if r = true then 0 else 1) ≤ gg ∧ u10 = .int .i64 0 ∧ u16 = .int .i64 d ∧ u17 = .int .i64 pu ∧ u18 = .int .i64 n ∧ Aside0 (JE w wr w1.heap.size (w1.heap.size + 1 + 1 + 1) w2.heap.size 10 2 (2 + (p : Int) + (d : Int)) (1 + (p : Int) - (d : Int)) 2 r))
        case atStart => exact ⟨0, 0, false, 0, by simp, by simp, Nat.zero_le _, by simp, fun _ => Nat.zero_le _, by simp, by simp, rfl, rfl, rfl, rfl, ⟨by have := HJ4.out; simpa using this⟩⟩
        case round =>
          clear HJ4
          obtain ⟨d, n, r, pu, hp1, hp0, hd, hrt, hrf, hn, hg, rfl, rfl, rfl, rfl, HJ⟩ := hrel
          have hr1 : (if r = true then 1 else 0) ≤ 1 := by split <;> omega
          have hn20 : (n : Int) < 20 := by omega
          obtain ⟨A, c, hx, hR⟩ := HJ.out.x
          obtain ⟨-, lc, hC⟩ := Kd.R_reads' hR
          obtain ⟨cs, hs, hs0⟩ := HJ.out.s
          have x0 := blk_cell (j := 0) (v := .int .i64 (2 + (p : Int) + (d : Int))) hx rfl
          have x1 := blk_cell (j := 1) (v := .slice A 1 c) hx rfl
          have x2 := blk_cell (j := 2) (v := .int .i64 2) hx rfl
          have s0 := blk_cell (j := 0) hs hs0
          by_cases hdt : d = p + 1
          · obtain rfl : r = true := by cases r; exact absurd (hrf rfl) (by omega); rfl
            obtain rfl : pu = 1 := hp1 rfl
            have hst : 1 + (p : Int) - (d : Int) = 0 := by omega
            rw [hst] at hC
            have HCALL := Lib.hid (est0_calls HKE.out HEL.out (show 0 ≤ 2 + (p : Int) + (d : Int) ∧ 2 + (p : Int) + (d : Int) < 1000 by omega) lc hC)
            have HDT := Lib.hid hdt
            clear hx hR hC hs hs0 hr1 hst hp1 hp0 hn hrt hrf hg hdt hd hq
            go_wp2_with fail
            refine HCALL.out.mono ?_
            rintro e w5 ⟨z, hz0, rfl, hb5⟩
            have hz1 : decide (0 < z) = false := decide_eq_false (by omega)
            have hq2 : ((p : Int) == frm % 4) = true := by rw [HF.out]; simp
            have hq3 : ((d : Int) == (p : Int) + 1) = true := by rw [HDT.out]; simp
            have HJ5 := Aside0.mk (HJ.out.step hb5)
            clear hb5 x0 x1 x2 s0 HCALL HJ hz0 hn20
            go_wp2_with fail
            refine (awake24_calls _ (HG.out.of_below HJ5.out.below)).mono ?_
            rintro e w6 ⟨rfl, hb6⟩
            have HB6 := Aside0.mk (below_then HJ5.out.below HJ5.out.below.size hb6)
            clear hb6
            go_wp2
            go_ret
            exact ⟨rfl, HB6.out⟩
          · have hs1 : 0 < 1 + (p : Int) - (d : Int) := by omega
            have HCALL := Lib.hid (est_calls HKE.out HEL.out (show 1 ≤ 1 + (p : Int) - (d : Int) ∧ 1 + (p : Int) - (d : Int) ≤ 4 by omega) (show 0 ≤ 2 + (p : Int) + (d : Int) ∧ 2 + (p : Int) + (d : Int) < 1000 by omega) lc hC)
            clear hx hR hC hs hs0 hr1
            go_wp2_with fail
            refine HCALL.out.mono ?_
            rintro e w5 ⟨rfl, hb5⟩
            have HJ5 := Aside0.mk (HJ.out.step hb5)
            clear hb5 x0 x1 x2 s0 HCALL HJ
            obtain ⟨A, c, hx, hR⟩ := HJ5.out.x
            obtain ⟨-, lc, hC⟩ := Kd.R_reads' hR
            obtain ⟨cs, hs, hs0⟩ := HJ5.out.s
            have x0 := blk_cell (j := 0) (v := .int .i64 (2 + (p : Int) + (d : Int))) hx rfl
            have x1 := blk_cell (j := 1) (v := .slice A 1 c) hx rfl
            have x2 := blk_cell (j := 2) (v := .int .i64 2) hx rfl
            have s0 := blk_cell (j := 0) hs hs0
            have y0 := blk_cell (j := 0) (v := .int .i64 1) HJ5.out.j rfl
            have y1 := blk_cell (j := 1) (v := .int .i64 10) HJ5.out.j rfl
            have y2 := blk_cell (j := 2) (v := .int .i64 1) HJ5.out.j rfl
            have y3 := blk_cell (j := 3) (v := .int .i64 2) HJ5.out.j rfl
            have y4 := blk_cell (j := 4) (v := .int .i64 2) HJ5.out.j rfl
            have y5 := blk_cell (j := 5) (v := .bool r) HJ5.out.j rfl
            have y6 := blk_cell (j := 6) (v := .string ⟨#[]⟩) HJ5.out.j rfl
            have y7 := blk_cell (j := 7) (v := .bool false) HJ5.out.j rfl
            have HCALL := Lib.hid (enx_calls HKE.out HEL.out (show 1 ≤ 1 + (p : Int) - (d : Int) ∧ 1 + (p : Int) - (d : Int) ≤ 4 by omega) (show 0 ≤ 2 + (p : Int) + (d : Int) ∧ 2 + (p : Int) + (d : Int) < 1000 by omega) (.inr rfl) r (HG.out.of_below HJ5.out.below) lc hC)
            have hN : (d = p ∧ r = false ∧ nextP 2 r (1 + (p : Int) - (d : Int)) = (4, 0)) ∨ (¬ (d = p ∧ r = false) ∧ nextP 2 r (1 + (p : Int) - (d : Int)) = (3, 0)) := by
              unfold nextP
              rw [if_neg (by omega), if_neg (by omega), if_neg (by omega), if_neg (by omega)]
              by_cases hdr : d = p ∧ r = false
              · exact .inl ⟨hdr.1, hdr.2, if_pos ⟨by omega, hdr.2⟩⟩
              · exact .inr ⟨hdr, if_neg (fun h => hdr ⟨by omega, h.2⟩)⟩
            clear hx hR hC hs hs0
            go_wp2_with fail
            refine HCALL.out.mono ?_
            rintro e w6 ⟨rfl, hb6⟩
            have HJ6 := Aside0.mk (HJ5.out.step hb6)
            clear hb6 x0 x1 x2 s0 y0 y1 y2 y3 y4 y5 y6 y7 HCALL HJ5
            rcases hN with ⟨rfl, rfl, hN⟩ | ⟨hno, hN⟩
            · rw [hN]
              have y5 := blk_cell (j := 5) (v := .bool false) HJ6.out.j rfl
              have f5 := blk_frozen HJ6.out.j 5
              have HJ7 := Aside0.mk (HJ6.out.setRd true)
              clear HJ6
              go_wp2_with (go_at_call 28; refine (num24_calls _ _).mono ?_; rintro e w' ⟨rfl, rfl⟩)
              go_roundg (2 * (d + 1 - d))
              case measure => simp at hg; omega
              case rel => exact ⟨d, n + 1, true, 1, by simp, by simp, by omega, fun _ => Nat.le_refl _, by simp, by simp at hn ⊢; omega, by simp, rfl, rfl, by go_num, by go_num, HJ7⟩
            · rw [hN]
              obtain ⟨A, c, hx, hR⟩ := HJ6.out.x
              obtain ⟨-, lc, hC⟩ := Kd.R_reads' hR
              obtain ⟨cs, hs, hs0⟩ := HJ6.out.s
              have x0 := blk_cell (j := 0) (v := .int .i64 (2 + (p : Int) + (d : Int))) hx rfl
              have x1 := blk_cell (j := 1) (v := .slice A 1 c) hx rfl
              have x2 := blk_cell (j := 2) (v := .int .i64 2) hx rfl
              have s0 := blk_cell (j := 0) hs hs0
              have HCALL := Lib.hid (edn_calls HKE.out HEL.out (show 1 ≤ 1 + (p : Int) - (d : Int) ∧ 1 + (p : Int) - (d : Int) ≤ 4 by omega) (show 0 ≤ 2 + (p : Int) + (d : Int) ∧ 2 + (p : Int) + (d : Int) < 1000 by omega) lc hC)
              rw [show 2 + (p : Int) + (d : Int) + 1 = 2 + (p : Int) + ((d + 1 : Nat) : Int) by omega, show 1 + (p : Int) - (d : Int) - 1 = 1 + (p : Int) - ((d + 1 : Nat) : Int) by omega] at HCALL
              clear hx hR hC hs hs0
              go_wp2_with (first | (go_at_call 28; refine (num24_calls _ _).mono ?_; rintro e w' ⟨rfl, rfl⟩))
              refine HCALL.out.mono ?_
              rintro e w7 ⟨A6, c6, rfl, hR6, hb7⟩
              have HJ7 := Aside0.mk (HJ6.out.step hb7)
              have HJ8 := Aside0.mk (HJ7.out.setX (v' := 2 + (p : Int) + ((d + 1 : Nat) : Int)) HJ6.out.below.size hR6)
              clear hb7 hR6 x0 x1 x2 s0 HCALL HJ6
              obtain ⟨A, c, hx, -⟩ := HJ7.out.x
              have x0 := blk_cell (j := 0) (v := .int .i64 (2 + (p : Int) + (d : Int))) hx rfl
              have x1 := blk_cell (j := 1) (v := .slice A 1 c) hx rfl
              have x2 := blk_cell (j := 2) (v := .int .i64 2) hx rfl
              have f0 := blk_frozen hx 0
              have f1 := blk_frozen hx 1
              have f2 := blk_frozen hx 2
              clear hx HJ7
              go_wp2_with fail
              go_roundg (2 * (p + 1 - (d + 1)) + (if r = true then 0 else 1))
              case measure => cases r <;> simp at hg ⊢ <;> omega
              case rel => exact ⟨d + 1, n + 1, r, pu, hp1, hp0, by omega, fun h => by have := hrt h; omega, fun h => by have : d ≠ p := fun e => hno ⟨e, h⟩; omega, by omega, Nat.le_refl _, rfl, by go_num, rfl, by go_num, HJ8⟩
      · have hq : ((1 + (p : Int)) == (1 + frm % 4)) = false := by
          rw [HF.out]
          have : (1 + (p : Int)) ≠ 1 + (top : Int) := by omega
          simpa using this
        obtain ⟨A, c, hx, hR⟩ := HJ3.out.x
        obtain ⟨-, lc, hC⟩ := Kd.R_reads' hR
        obtain ⟨cs, hs, hs0⟩ := HJ3.out.s
        have x0 := blk_cell (j := 0) (v := .int .i64 (2 + (p : Int))) hx rfl
        have x1 := blk_cell (j := 1) (v := .slice A 1 c) hx rfl
        have x2 := blk_cell (j := 2) (v := .int .i64 2) hx rfl
        have s0 := blk_cell (j := 0) hs hs0
        have y0 := blk_cell (j := 0) (v := .int .i64 1) HJ3.out.j rfl
        have y1 := blk_cell (j := 1) (v := .int .i64 10) HJ3.out.j rfl
        have y2 := blk_cell (j := 2) (v := .int .i64 1) HJ3.out.j rfl
        have y3 := blk_cell (j := 3) (v := .int .i64 2) HJ3.out.j rfl
        have y4 := blk_cell (j := 4) (v := .int .i64 1) HJ3.out.j rfl
        have y5 := blk_cell (j := 5) (v := .bool r) HJ3.out.j rfl
        have y6 := blk_cell (j := 6) (v := .string ⟨#[]⟩) HJ3.out.j rfl
        have y7 := blk_cell (j := 7) (v := .bool false) HJ3.out.j rfl
        have HCALL := Lib.hid (enx_calls HKE.out HEL.out (show 1 ≤ 1 + (p : Int) ∧ 1 + (p : Int) ≤ 4 by omega) (show 0 ≤ 2 + (p : Int) ∧ 2 + (p : Int) < 1000 by omega) (.inl rfl) r (HG.out.of_below HJ3.out.below) lc hC)
        have hN : (p = 1 ∧ r = false ∧ nextP 1 r (1 + (p : Int)) = (2, 0)) ∨ (¬ (p = 1 ∧ r = false) ∧ nextP 1 r (1 + (p : Int)) = (1, 0)) := by
          have h3 : p = 0 ∨ p = 1 ∨ p = 2 := by omega
          rcases h3 with rfl | rfl | rfl <;> cases r
          · exact .inr ⟨by simp, rfl⟩
          · exact .inr ⟨by simp, rfl⟩
          · exact .inl ⟨rfl, rfl, rfl⟩
          · exact .inr ⟨by simp, rfl⟩
          · exact .inr ⟨by simp, rfl⟩
          · exact .inr ⟨by simp, rfl⟩
        clear hx hR hC hs hs0
        go_wp2_with fail
        refine HCALL.out.mono ?_
        rintro e w4 ⟨rfl, hb4⟩
        have HJ4 := Aside0.mk (HJ3.out.step hb4)
        clear hb4 x0 x1 x2 s0 y0 y1 y2 y3 y4 y5 y6 y7 HCALL HJ3
        rcases hN with ⟨rfl, rfl, hN⟩ | ⟨hno, hN⟩
        · rw [hN]
          have y5 := blk_cell (j := 5) (v := .bool false) HJ4.out.j rfl
          have f5 := blk_frozen HJ4.out.j 5
          have HJ5 := Aside0.mk (HJ4.out.setRd true)
          clear HJ4
          go_wp2_with (go_at_call 28; refine (num24_calls _ _).mono ?_; rintro e w' ⟨rfl, rfl⟩)
          go_roundg (2 * (top - 1))
          case measure => simp at hg; omega
          case rel => exact ⟨1, n + 1, true, by omega, fun _ => rfl, by simp at hn ⊢; omega, by simp, rfl, rfl, by go_num, HJ5⟩
        · rw [hN]
          have y5 := blk_cell (j := 5) (v := .bool r) HJ4.out.j rfl
          have f5 := blk_frozen HJ4.out.j 5
          have HJ5 := Aside0.mk (HJ4.out.setRd false)
          have HW5 : Aside0 (∃ W5, W5 = w4.setCell ⟨w2.heap.size, 5, none⟩ (.bool false)) := ⟨⟨_, rfl⟩⟩
          obtain ⟨W5, hW5⟩ := HW5.out
          rw [← hW5] at HJ5
          obtain ⟨A, c, hx, hR⟩ := HJ5.out.x
          obtain ⟨-, lc, hC⟩ := Kd.R_reads' hR
          obtain ⟨cs, hs, hs0⟩ := HJ5.out.s
          have x0 := blk_cell (j := 0) (v := .int .i64 (2 + (p : Int))) hx rfl
          have x1 := blk_cell (j := 1) (v := .slice A 1 c) hx rfl
          have x2 := blk_cell (j := 2) (v := .int .i64 2) hx rfl
          have s0 := blk_cell (j := 0) hs hs0
          have HCALL := Lib.hid (eup_calls HKE.out HEL.out (show 1 ≤ 1 + (p : Int) ∧ 1 + (p : Int) ≤ 3 by omega) (show 0 ≤ 2 + (p : Int) ∧ 2 + (p : Int) < 1000 by omega) lc hC)
          rw [show 2 + (p : Int) + 1 = 2 + ((p + 1 : Nat) : Int) by omega, show 1 + (p : Int) + 1 = 1 + ((p + 1 : Nat) : Int) by omega] at HCALL
          rw [hW5] at HCALL x0 x1 x2 s0
          have HW5 := Lib.hid hW5
          clear hx hR hC hs hs0 hW5
          go_wp2_with (go_at_call 28; refine (num24_calls _ _).mono ?_; rintro e w' ⟨rfl, rfl⟩)
          refine HCALL.out.mono ?_
          rw [← HW5.out]
          rintro e w6 ⟨A6, c6, rfl, hR6, hb6⟩
          have HJ6 := Aside0.mk (HJ5.out.step hb6)
          have HJ7 := Aside0.mk (HJ6.out.setX (v' := 2 + ((p + 1 : Nat) : Int)) HJ5.out.below.size hR6)
          clear hb6 hR6 x0 x1 x2 s0 y5 f5 HCALL HJ5 HW5 HJ4
          obtain ⟨A, c, hx, -⟩ := HJ6.out.x
          have x0 := blk_cell (j := 0) (v := .int .i64 (2 + (p : Int))) hx rfl
          have x1 := blk_cell (j := 1) (v := .slice A 1 c) hx rfl
          have x2 := blk_cell (j := 2) (v := .int .i64 2) hx rfl
          have f0 := blk_frozen hx 0
          have f1 := blk_frozen hx 1
          have f2 := blk_frozen hx 2
          clear hx HJ6
          go_wp2_with fail
          go_roundg (2 * (top - (p + 1)) + 1)
          case measure => cases r <;> simp at hg <;> omega
          case rel => exact ⟨p + 1, n + 1, false, by omega, by simp, by cases r <;> simp at hn ⊢ <;> omega, by simp, rfl, by go_num, by go_num, HJ7⟩
end Go.Proofs.YtjgomlcdmpcoaaaDoor.H
