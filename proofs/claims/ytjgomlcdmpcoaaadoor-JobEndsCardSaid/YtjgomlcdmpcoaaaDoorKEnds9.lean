/- Own texts of this session, packed by its program wip/pp/pack.py: lemmas and walks of functions. -/
import Derived.Test.YtjgomlcdmpcoaaaDoorKEnds8
namespace Go.Proofs.YtjgomlcdmpcoaaaDoor.H
open Go.RowKit Go.Proofs.YtjgomlcdmpcoaaaDoorW.PrintWords Go.Proofs.YtjgomlcdmpcoaaaDoorW.PrintLast Go.Proofs.YtjgomlcdmpcoaaaDoorW.PrintMore
open Go.Proofs.YtjgomlcdmpcoaaaDoor.D Go.Proofs.YtjgomlcdmpcoaaaDoor
set_option linter.unusedVariables false
set_option linter.unusedSimpArgs false
structure Told where
  v : Int
  ts : List S70
  nx : Int
  table : Int
  elem : Int
  err : Int
def noTold (e : Int) : Told := ⟨0, [], 0, 0, 0, e⟩
def beginP (f : S70 → S45 → S70 × Int × Int) (v : Int) (ts : List S70) (nx : Int) (s : S45) : Told :=
  if schB v ts nx = false then noTold 3
  else if 1099511627775 ≤ v then noTold 4
  else if s.f0 < 6 ∨ 11 < s.f0 then noTold 1
  else if idxL (tName s.f1) ts 0 < 0 then noTold 5
  else if (f (rd_T70 ts (idxL (tName s.f1) ts 0)) s).2.2 ≠ 0 then noTold (f (rd_T70 ts (idxL (tName s.f1) ts 0)) s).2.2
  else ⟨v + 1, ts.set (idxL (tName s.f1) ts 0).toNat (f (rd_T70 ts (idxL (tName s.f1) ts 0)) s).1, nx, (f (rd_T70 ts (idxL (tName s.f1) ts 0)) s).1.f0, (f (rd_T70 ts (idxL (tName s.f1) ts 0)) s).2.1, 0⟩
structure Bxs (w W : World) (bx sx : Array Value) : Prop where
  below : Below w.heap.size w W
  b0 : W.heap[w.heap.size]? = some (.cells bx 28 (0, 0))
  b1 : W.heap[w.heap.size + 1]? = some (.cells sx 45 (0, 0))
  b2 : W.heap[w.heap.size + 1 + 1]? = some (.cells #[.int .i64 0, .slice none 0 0, .int .i64 0] 28 (0, 0))
section
variable {w W W1 : World} {bx sx : Array Value}
theorem Bxs.new (w : World) (bx sx : Array Value) : Bxs w (((w.alloc (.cells bx 28)).alloc (.cells sx 45)).alloc (.cells #[.int .i64 0, .slice none 0 0, .int .i64 0] 28)) bx sx := by
  have h1 := heap_alloc_new w (.cells bx 28)
  have h2 := heap_alloc_new (w.alloc (.cells bx 28)) (.cells sx 45)
  have h3 := heap_alloc_new ((w.alloc (.cells bx 28)).alloc (.cells sx 45)) (.cells #[.int .i64 0, .slice none 0 0, .int .i64 0] 28)
  rw [show (w.alloc (.cells bx 28)).heap.size = w.heap.size + 1 by simp] at h2
  rw [show ((w.alloc (.cells bx 28)).alloc (.cells sx 45)).heap.size = w.heap.size + 1 + 1 by simp] at h3
  exact ⟨below_alloc (below_alloc (below_alloc (Below.refl _ _) _) _) _, blk_alloc (blk_alloc h1 _) _, blk_alloc h2 _, h3⟩
theorem Bxs.step (h : Bxs w W bx sx) (hb : Below W.heap.size W W1) : Bxs w W1 bx sx := ⟨below_then h.below h.below.size hb, blk_below h.b0 hb, blk_below h.b1 hb, blk_below h.b2 hb⟩
theorem Bxs.tch (h : Bxs w W bx sx) (hb : Tch w.heap.size W W1) : Bxs w W1 bx sx := ⟨h.below.trans hb.below, hb.box h.b0, hb.box h.b1, hb.box h.b2⟩
theorem Bxs.out (h : Bxs w W bx sx) (a b c : Value) : Below w.heap.size w (((W.setCell ⟨w.heap.size + 1 + 1, 0, none⟩ a).setCell ⟨w.heap.size + 1 + 1, 1, none⟩ b).setCell ⟨w.heap.size + 1 + 1, 2, none⟩ c) :=
  have hl : w.heap.size ≤ w.heap.size + 1 + 1 := by omega
  ((h.below.setCell hl _).setCell hl _).setCell hl _
end
def Tells (w : World) (r : Told) (e : Ending) (w' : World) : Prop :=
  ∃ A c, e = .returned (.tuple #[.agg #[.int .i64 r.v, .slice A r.ts.length c, .int .i64 r.nx], .int .i64 r.table, .int .i64 r.elem, .int .i64 r.err]) ∧ k70.R 70 w' w.heap.size (fun _ => True) (.slice A r.ts.length c) r.ts ∧ Below w.heap.size w w'
theorem rtabn_calls (v : Int) (ts : List S70) (nx : Int) (n : ByteArray) (hn : ts.length < 1000) (A : Option Addr) (c : Nat) (w : World) (hc : ts.length ≤ c) (g2 : k70.C w A ts.length ts) :
    Calls Tryd.prog 55 #[.agg #[.int .i64 v, .slice A ts.length c, .int .i64 nx], .string n] w fun e w' => e = .returned (.int .i64 (idxL (tName n) ts 0)) ∧ Below w.heap.size w w' := by
  have h := table_run n v ts nx (by omega) ts.length 1001 0 (by omega) (by omega)
  rw [List.drop_zero] at h
  exact (falseworkref18_Table.calls 1001 v A c ts nx n _ w g2 hc h).mono fun e w' h => ⟨h.1, by first | exact h.2 | exact h.2.below⟩
theorem schB_small {v : Int} {ts : List S70} {nx : Int} (h : schB v ts nx = true) : Small ts := by
  refine ⟨by have := (schB_len h).2; omega, fun t ht => ?_⟩
  obtain ⟨h1, h2, h3, h4⟩ := tableB_lens (schB_tab h t ht)
  exact ⟨by omega, by omega, fun x hx => by have := h4 x hx; omega⟩
theorem S_set3 {W : World} {B g : Nat} {u a b c : Value} {l : List S70} {cs : Array Value} (hS : Kd.S k70 70 W B (fun _ => True) u l) (hx : W.heap[g]? = some (.cells cs 28 (0, 0))) :
    Kd.S k70 70 (((W.setCell ⟨g, 0, none⟩ a).setCell ⟨g, 1, none⟩ b).setCell ⟨g, 2, none⟩ c) B (fun _ => True) u l := by
  have h1 := blk_put hx 0 a rfl
  have h2 := blk_put h1 1 b rfl
  exact Kd.S_set (Kd.S_set (Kd.S_set hS hx (by decide) 0 a) h1 (by decide) 1 b) h2 (by decide) 2 c
theorem Bxs.far {w W : World} {bx sx : Array Value} (h : Bxs w W bx sx) {g j : Nat} (hg : w.heap.size + 1 + 1 < g) (u : Value) : Bxs w (W.setCell ⟨g, j, none⟩ u) bx sx :=
  ⟨h.below.setCell (p := ⟨g, j, none⟩) (show w.heap.size ≤ g by omega) _, blk_far h.b0 (p := ⟨g, j, none⟩) (show w.heap.size ≠ g by omega) _, blk_far h.b1 (p := ⟨g, j, none⟩) (show w.heap.size + 1 ≠ g by omega) _, blk_far h.b2 (p := ⟨g, j, none⟩) (show w.heap.size + 1 + 1 ≠ g by omega) _⟩
theorem tells_ok {w W : World} {R : Told} {g cap : Nat} {v nx table elem : Int} {ts : List S70} (hR : R = ⟨v, ts, nx, table, elem, 0⟩) (hS : Kd.S k70 70 W w.heap.size (fun _ => True) (.slice (some ⟨g, 0, none⟩) ts.length cap) ts) (hb : Below w.heap.size w W) :
    Tells w R (.returned (.tuple #[.agg #[.int .i64 v, .slice (some ⟨g, 0, none⟩) ts.length cap, .int .i64 nx], .int .i64 table, .int .i64 elem, .int .i64 0])) W := by
  subst hR
  exact ⟨_, _, rfl, Kd.S_R hS, hb⟩
theorem tells_no {w W : World} {R : Told} {n : Int} (hR : R = noTold n) (hb : Below w.heap.size w W) : Tells w R (.returned (.tuple #[.agg #[.int .i64 0, .slice none 0 0, .int .i64 0], .int .i64 0, .int .i64 0, .int .i64 n])) W := by
  subst hR
  exact ⟨none, 0, rfl, Kd.R_nil _ _ _ _ _, hb⟩
set_option maxRecDepth 100000 in
set_option maxHeartbeats 4000000 in
theorem begin_of (F : Nat) (f : S70 → S45 → S70 × Int × Int) (hU : Upd F f) (v : Int) (ts : List S70) (nx : Int) (s : S45) (hF : (s.f0 = 6 ∧ F = 62) ∨ (s.f0 = 8 ∧ F = 63) ∨ (s.f0 ≠ 6 ∧ s.f0 ≠ 8 ∧ F = 64)) (hn : ts.length < 1000) (hw : ∀ t ∈ ts, ∀ c ∈ t.f2, ValWf c.f5)
    (A : Option Addr) (c : Nat) (w : World) (hc : ts.length ≤ c) (g2 : k70.C w A ts.length ts) (cs : List Value) (hs : k45.K w s cs) (hok : StmtOk s) :
    Calls Tryd.prog 30 #[.agg #[.int .i64 v, .slice A ts.length c, .int .i64 nx], .agg cs.toArray] w (Tells w (beginP f v ts nx s)) := by
  obtain ⟨A3, c3, A4, c4, A5, c5, A6, c6, A9, c9, rfl, -⟩ := k45_open hs
  have HS := Aside0.mk hs
  have HC := Aside0.mk g2
  obtain ⟨bx, hbx⟩ : ∃ b : Array Value, b = #[.int .i64 v, .slice A ts.length c, .int .i64 nx] := ⟨_, rfl⟩
  obtain ⟨sx, hsx⟩ : ∃ b : Array Value, b = #[.int .i64 s.f0, .string s.f1, .string s.f2, .slice A3 s.f3.length c3, .slice A4 s.f4.length c4, .slice A5 s.f5.length c5, .slice A6 s.f6.length c6, .bool s.f7, .int .i64 s.f8, .slice A9 s.f9.length c9] := ⟨_, rfl⟩
  have HX := Aside0.mk (Bxs.new w bx sx)
  have HM := Lib.hid (fun W (hb : Below w.heap.size w W) => rmay_calls v ts nx hw A c W hc (Kd.C_below g2 hb))
  have HI := Lib.hid (show beginP f v ts nx s = _ by unfold beginP; exact rfl)
  have HU := Lib.hid hU
  obtain ⟨R, hR⟩ : ∃ R, beginP f v ts nx s = R := ⟨_, rfl⟩
  rw [hR]
  rw [hR] at HI
  rw [hbx, hsx] at HX
  clear hs g2 hR hw hU
  cases hsch : schB v ts nx with
  | false =>
    have HR := Lib.hid (show R = noTold 3 by rw [HI.out, if_pos hsch])
    rw [hsch] at HM
    clear hsch HI
    go_enter Tryd.func30, Tryd.ntmps30
    go_wp2_with fail
    refine (HM.out _ HX.out.below).mono ?_
    rintro e w1 ⟨rfl, hb1⟩
    have HX1 := Aside0.mk (HX.out.step hb1)
    have f0 := blk_frozen HX1.out.b2 0
    have f1 := blk_frozen HX1.out.b2 1
    have f2 := blk_frozen HX1.out.b2 2
    have c0 := blk_cell (j := 0) (v := .int .i64 0) HX1.out.b2 rfl
    have c1 := blk_cell (j := 1) (v := .slice none 0 0) HX1.out.b2 rfl
    have c2 := blk_cell (j := 2) (v := .int .i64 0) HX1.out.b2 rfl
    clear hb1
    go_wp2
    refine bodyPost_ret (v := .tuple #[.agg #[.int .i64 0, .slice none 0 0, .int .i64 0], .int .i64 0, .int .i64 0, .int .i64 3]) (by simp [results, Tryd.results30, go_sem, c0, c1, c2]) rfl (tells_no HR.out (HX1.out.out _ _ _))
  | true =>
    rw [hsch] at HM
    have HI2 := Lib.hid (HI.out.trans (if_neg (by rw [hsch]; simp)))
    have HB := Lib.hid hsch
    clear hsch HI
    go_enter Tryd.func30, Tryd.ntmps30
    go_wp2_with fail
    refine (HM.out _ HX.out.below).mono ?_
    rintro e w1 ⟨rfl, hb1⟩
    have HX1 := Aside0.mk (HX.out.step hb1)
    have x0 := blk_cell (j := 0) (v := .int .i64 v) HX1.out.b0 rfl
    clear hb1 HX HM
    by_cases hv : 1099511627775 ≤ v
    · have hd : decide (1099511627775 ≤ v) = true := decide_eq_true hv
      have HR := Lib.hid (show R = noTold 4 by rw [HI2.out, if_pos hv])
      have f0 := blk_frozen HX1.out.b2 0
      have f1 := blk_frozen HX1.out.b2 1
      have f2 := blk_frozen HX1.out.b2 2
      have c0 := blk_cell (j := 0) (v := .int .i64 0) HX1.out.b2 rfl
      have c1 := blk_cell (j := 1) (v := .slice none 0 0) HX1.out.b2 rfl
      have c2 := blk_cell (j := 2) (v := .int .i64 0) HX1.out.b2 rfl
      clear hv HI2
      go_wp2
      refine bodyPost_ret (v := .tuple #[.agg #[.int .i64 0, .slice none 0 0, .int .i64 0], .int .i64 0, .int .i64 0, .int .i64 4]) (by simp [results, Tryd.results30, go_sem, c0, c1, c2]) rfl (tells_no HR.out (HX1.out.out _ _ _))
    have hd : decide (1099511627775 ≤ v) = false := decide_eq_false hv
    have HI3 := Lib.hid (HI2.out.trans (if_neg hv))
    have s0 := blk_cell (j := 0) (v := .int .i64 s.f0) HX1.out.b1 rfl
    have s1 := blk_cell (j := 1) (v := .string s.f1) HX1.out.b1 rfl
    have x1 := blk_cell (j := 1) (v := .slice A ts.length c) HX1.out.b0 rfl
    have x2 := blk_cell (j := 2) (v := .int .i64 nx) HX1.out.b0 rfl
    have HV := Lib.hid hv
    clear HI2 hv
    by_cases hk6 : s.f0 < 6
    · have hd6 : decide (s.f0 < 6) = true := decide_eq_true hk6
      have HR := Lib.hid (show R = noTold 1 by rw [HI3.out, if_pos (.inl hk6)])
      have f0 := blk_frozen HX1.out.b2 0
      have f1 := blk_frozen HX1.out.b2 1
      have f2 := blk_frozen HX1.out.b2 2
      have c0 := blk_cell (j := 0) (v := .int .i64 0) HX1.out.b2 rfl
      have c1 := blk_cell (j := 1) (v := .slice none 0 0) HX1.out.b2 rfl
      have c2 := blk_cell (j := 2) (v := .int .i64 0) HX1.out.b2 rfl
      clear hk6 HI3 hF
      go_wp2
      refine bodyPost_ret (v := .tuple #[.agg #[.int .i64 0, .slice none 0 0, .int .i64 0], .int .i64 0, .int .i64 0, .int .i64 1]) (by simp [results, Tryd.results30, go_sem, c0, c1, c2]) rfl (tells_no HR.out (HX1.out.out _ _ _))
    have hd6 : decide (s.f0 < 6) = false := decide_eq_false hk6
    by_cases hk11 : 11 < s.f0
    · have hd11 : decide (11 < s.f0) = true := decide_eq_true hk11
      have HR := Lib.hid (show R = noTold 1 by rw [HI3.out, if_pos (.inr hk11)])
      have f0 := blk_frozen HX1.out.b2 0
      have f1 := blk_frozen HX1.out.b2 1
      have f2 := blk_frozen HX1.out.b2 2
      have c0 := blk_cell (j := 0) (v := .int .i64 0) HX1.out.b2 rfl
      have c1 := blk_cell (j := 1) (v := .slice none 0 0) HX1.out.b2 rfl
      have c2 := blk_cell (j := 2) (v := .int .i64 0) HX1.out.b2 rfl
      clear hk6 hk11 HI3 hF
      go_wp2
      refine bodyPost_ret (v := .tuple #[.agg #[.int .i64 0, .slice none 0 0, .int .i64 0], .int .i64 0, .int .i64 0, .int .i64 1]) (by simp [results, Tryd.results30, go_sem, c0, c1, c2]) rfl (tells_no HR.out (HX1.out.out _ _ _))
    have hd11 : decide (11 < s.f0) = false := decide_eq_false hk11
    have HI4 := Lib.hid (HI3.out.trans (if_neg (show ¬ (s.f0 < 6 ∨ 11 < s.f0) by omega)))
    have HF := Lib.hid hF
    clear HI3 hk6 hk11 hF
    have HT := Lib.hid (fun W (hb : Below w.heap.size w W) => rtabn_calls v ts nx s.f1 hn A c W hc (Kd.C_below HC.out hb))
    obtain ⟨ix, hix⟩ : ∃ ix, idxL (tName s.f1) ts 0 = ix := ⟨_, rfl⟩
    have hia := idxL_at (tName s.f1) ts
    rw [hix] at HT HI4 hia
    clear hix
    go_wp2_with fail
    refine (HT.out _ HX1.out.below).mono ?_
    rintro e w2 ⟨rfl, hb2⟩
    have HX2 := Aside0.mk (HX1.out.step hb2)
    clear hb2 HX1 s0 s1 x0 x1 x2 HT
    rcases hia with rfl | ⟨k, hk, rfl, -⟩
    · have HX1 := HX2
      have HR := Lib.hid (show R = noTold 5 by rw [HI4.out]; rfl)
      have f0 := blk_frozen HX1.out.b2 0
      have f1 := blk_frozen HX1.out.b2 1
      have f2 := blk_frozen HX1.out.b2 2
      have c0 := blk_cell (j := 0) (v := .int .i64 0) HX1.out.b2 rfl
      have c1 := blk_cell (j := 1) (v := .slice none 0 0) HX1.out.b2 rfl
      have c2 := blk_cell (j := 2) (v := .int .i64 0) HX1.out.b2 rfl
      clear HI4
      go_wp2
      refine bodyPost_ret (v := .tuple #[.agg #[.int .i64 0, .slice none 0 0, .int .i64 0], .int .i64 0, .int .i64 0, .int .i64 5]) (by simp [results, Tryd.results30, go_sem, c0, c1, c2]) rfl (tells_no HR.out (HX1.out.out _ _ _))
    have HI5 := Lib.hid (HI4.out.trans (if_neg (by omega)))
    have hk0 : (0 : Int) ≤ (k : Int) := by omega
    have hkl : (k : Int) < (ts.length : Int) := by omega
    have x0 := blk_cell (j := 0) (v := .int .i64 v) HX2.out.b0 rfl
    have x1 := blk_cell (j := 1) (v := .slice A ts.length c) HX2.out.b0 rfl
    have x2 := blk_cell (j := 2) (v := .int .i64 nx) HX2.out.b0 rfl
    clear HI4
    go_wp2_with fail
    refine (copy_calls v ts nx (schB_small HB.out) A c w2 hc (Kd.C_below HC.out HX2.out.below)).mono ?_
    rintro e w3 ⟨u, rfl, hS, hb3⟩
    have hS' := Kd.S_lower hS HX2.out.below.size
    obtain ⟨g, cap, rfl, -⟩ := Kd.S_form hS' (by omega)
    have HX3 := Aside0.mk (HX2.out.step hb3)
    have HS3 := Aside0.mk hS'
    have HY := Aside0.mk (heap_alloc_new w3 (.cells #[.int .i64 v, .slice (some ⟨g, 0, none⟩) ts.length cap, .int .i64 nx] 28))
    clear hS hS' hb3 x0 x1 x2 HX2
    have HX4 := Aside0.mk (HX3.out.step (below_alloc (Below.refl _ _) (.cells #[.int .i64 v, .slice (some ⟨g, 0, none⟩) ts.length cap, .int .i64 nx] 28)))
    have s0 := blk_cell (j := 0) (v := .int .i64 s.f0) HX4.out.b1 rfl
    have s1 := blk_cell (j := 1) (v := .string s.f1) HX4.out.b1 rfl
    have s2 := blk_cell (j := 2) (v := .string s.f2) HX4.out.b1 rfl
    have s3 := blk_cell (j := 3) (v := .slice A3 s.f3.length c3) HX4.out.b1 rfl
    have s4 := blk_cell (j := 4) (v := .slice A4 s.f4.length c4) HX4.out.b1 rfl
    have s5 := blk_cell (j := 5) (v := .slice A5 s.f5.length c5) HX4.out.b1 rfl
    have s6 := blk_cell (j := 6) (v := .slice A6 s.f6.length c6) HX4.out.b1 rfl
    have s7 := blk_cell (j := 7) (v := .bool s.f7) HX4.out.b1 rfl
    have s8 := blk_cell (j := 8) (v := .int .i64 s.f8) HX4.out.b1 rfl
    have s9 := blk_cell (j := 9) (v := .slice A9 s.f9.length c9) HX4.out.b1 rfl
    obtain ⟨oki, cv, iv, hL⟩ := lend HS3.out hk
    have HL := Aside0.mk (hL.step (below_alloc (Below.refl _ _) (.cells #[.int .i64 v, .slice (some ⟨g, 0, none⟩) ts.length cap, .int .i64 nx] 28)))
    have HTB := Lib.hid (schB_tab HB.out _ (List.getElem_mem hk))
    obtain ⟨t, ht⟩ : ∃ t, ts[k] = t := ⟨_, rfl⟩
    have HI6 := HI5
    rw [rd70 _ _ hk] at HI6
    rw [ht] at HL HTB HI6
    obtain ⟨t', id, er, hf⟩ : ∃ t' id er, f t s = (t', id, er) := ⟨_, _, _, rfl⟩
    have hUU := HU.out w _ g ts.length cap ts k oki t cv iv s _ HX4.out.below HL.out HTB.out HS.out hok
    rw [hf] at HI6 hUU
    have HUU := Lib.hid hUU
    obtain ⟨q6, q8, hq6, hq8, hFq⟩ : ∃ q6 q8 : Bool, (s.f0 == 6) = q6 ∧ (s.f0 == 8) = q8 ∧ ((q6 = true ∧ F = 62) ∨ (q6 = false ∧ q8 = true ∧ F = 63) ∨ (q6 = false ∧ q8 = false ∧ F = 64)) := by
      refine ⟨_, _, rfl, rfl, ?_⟩
      rcases HF.out with ⟨h, h'⟩ | ⟨h, h'⟩ | ⟨h, h', h''⟩
      · exact .inl ⟨by rw [h]; rfl, h'⟩
      · exact .inr (.inl ⟨by rw [h]; rfl, by rw [h]; rfl, h'⟩)
      · exact .inr (.inr ⟨by simpa using h, by simpa using h', h''⟩)
    have hv1 : v < 1099511627775 := by have := HV.out; omega
    have hv0 : 0 ≤ v := by have := HB.out; unfold schB at this; simp only [Bool.and_eq_true, decide_eq_true_eq] at this; exact this.1
    clear hL ht hf hUU HI5 HU hd hd6 hd11 HF
    rcases hFq with ⟨rfl, rfl⟩ | ⟨rfl, rfl, rfl⟩ | ⟨rfl, rfl, rfl⟩
    all_goals
      go_wp2_with fail
      refine HUU.out.mono ?_
      rintro e w5 ⟨rfl, hS5, hT5⟩
      have HX5 := Aside0.mk (HX4.out.tch hT5)
      have HY5 := Aside0.mk (hT5.box HY.out)
      have HS5 := Aside0.mk hS5
      have hltz : w3.heap.size < w5.heap.size := lt_of_block HY5.out
      clear s0 s1 s2 s3 s4 s5 s6 s7 s8 s9 hS5 hT5 HUU hq6 hq8
      by_cases her : er = 0
      · subst her
        have HR := Lib.hid (HI6.out.trans (if_neg (by simp)))
        have y0 := blk_cell (j := 0) (v := .int .i64 v) HY5.out rfl
        have g0 := blk_frozen HY5.out 0
        have hq3 : w.heap.size + 1 + 1 < w3.heap.size := lt_of_block HX3.out.b2
        have hX6 := HX5.out.far (j := 0) hq3 (.int .i64 (v + 1))
        have hY6 := blk_put HY5.out 0 (.int .i64 (v + 1)) rfl
        have hS6 := Kd.S_set HS5.out HY5.out (by decide) 0 (.int .i64 (v + 1))
        clear HI6
        go_wp2_with fail
        clear y0 g0
        generalize w5.setCell ⟨w3.heap.size, 0, none⟩ (.int .i64 (v + 1)) = w6 at hX6 hY6 hS6 ⊢
        have y0 := blk_cell (j := 0) (v := .int .i64 (v + 1)) hY6 rfl
        have y1 := blk_cell (j := 1) (v := .slice (some ⟨g, 0, none⟩) ts.length cap) hY6 rfl
        have y2 := blk_cell (j := 2) (v := .int .i64 nx) hY6 rfl
        obtain ⟨oki6, cv6, iv6, hL6⟩ := lend hS6 (by rw [List.length_set]; exact hk)
        rw [List.getElem_set_self] at hL6
        have t0 : w6.cell? ⟨g, k * 5, none⟩ = some (.int .i64 t'.f0) := hL6.cell 0 rfl
        have f0 := blk_frozen hX6.b2 0
        have f1 := blk_frozen hX6.b2 1
        have f2 := blk_frozen hX6.b2 2
        have c0 := blk_cell (j := 0) (v := .int .i64 0) hX6.b2 rfl
        have c1 := blk_cell (j := 1) (v := .slice none 0 0) hX6.b2 rfl
        have c2 := blk_cell (j := 2) (v := .int .i64 0) hX6.b2 rfl
        have HX6 := Aside0.mk hX6
        have HS6 := Aside0.mk hS6
        obtain ⟨gcs, hgb⟩ := hL6.blk
        have n1 : ¬ g = w.heap.size + 1 + 1 := blk_ne hgb hX6.b2 (by decide)
        have n2 : ¬ w3.heap.size = w.heap.size + 1 + 1 := by omega
        clear hX6 hY6 hS6 hL6 hgb
        go_region
        all_goals
          go_wp2
          refine bodyPost_ret (v := .tuple #[.agg #[.int .i64 (v + 1), .slice (some ⟨g, 0, none⟩) ts.length cap, .int .i64 nx], .int .i64 t'.f0, .int .i64 id, .int .i64 0]) (by simp [results, Tryd.results30, go_sem, c0, c1, c2]) rfl ?_
          have hfin := tells_ok (w := w) (R := R) (v := v + 1) (nx := nx) (table := t'.f0) (elem := id) (ts := ts.set k t') (cap := cap) (g := g) (by rw [HR.out]; simp) (Kd.S_drew (S_set3 (by rw [List.length_set]; exact HS6.out) HX6.out.b2)) (below_drew (HX6.out.out (.int .i64 (v + 1)) (.slice (some ⟨g, 0, none⟩) (ts.set k t').length cap) (.int .i64 nx)))
          rw [List.length_set] at hfin
          exact hfin
      · have hd : (er != 0) = true := by simpa using her
        have HX1 := HX5
        have HR := Lib.hid (show R = noTold er by rw [HI6.out]; exact if_pos her)
        have f0 := blk_frozen HX1.out.b2 0
        have f1 := blk_frozen HX1.out.b2 1
        have f2 := blk_frozen HX1.out.b2 2
        have c0 := blk_cell (j := 0) (v := .int .i64 0) HX1.out.b2 rfl
        have c1 := blk_cell (j := 1) (v := .slice none 0 0) HX1.out.b2 rfl
        have c2 := blk_cell (j := 2) (v := .int .i64 0) HX1.out.b2 rfl
        clear HI6 her
        go_wp2
        refine bodyPost_ret (v := .tuple #[.agg #[.int .i64 0, .slice none 0 0, .int .i64 0], .int .i64 0, .int .i64 0, .int .i64 er]) (by simp [results, Tryd.results30, go_sem, c0, c1, c2]) rfl (tells_no HR.out (HX1.out.out _ _ _))
end Go.Proofs.YtjgomlcdmpcoaaaDoor.H
namespace Go.Proofs.YtjgomlcdmpcoaaaDoor.H
open Go.RowKit Go.Proofs.YtjgomlcdmpcoaaaDoorW.PrintWords Go.Proofs.YtjgomlcdmpcoaaaDoorW.PrintLast Go.Proofs.YtjgomlcdmpcoaaaDoorW.PrintMore
open Go.Proofs.YtjgomlcdmpcoaaaDoor.D Go.Proofs.YtjgomlcdmpcoaaaDoor
attribute [local go_sem] max2_int min2_int max_two min_two max_three min_three max_four min_four
set_option linter.unusedVariables false
set_option linter.unusedSimpArgs false
def newCols : Nat → List ByteArray → List Int → List S75
  | i, n :: ns, k :: ks => ⟨(i : Int) + 1, n, k, 4, if i = 0 then 4 else 0, z73⟩ :: newCols (i + 1) ns ks
  | _, _, _ => []
def badCols : List ByteArray → List Int → Bool
  | n :: ns, k :: ks => (!nameB n || (decide (k < 1) || decide (5 < k))) || badCols ns ks
  | _, _ => false
def createP (v : Int) (ts : List S70) (nx : Int) (s : S45) : Told :=
  if schB v ts nx = false then noTold 3
  else if 1099511627775 ≤ v then noTold 4
  else if s.f0 ≠ 5 then noTold 1
  else if nameB s.f1 = false ∨ s.f3.length ≠ s.f9.length ∨ s.f3.length < 1 ∨ 8 < s.f3.length then noTold 3
  else if badCols s.f3 s.f9 = true then noTold 3
  else if 0 ≤ idxL (tName s.f1) ts 0 ∨ twiceB [] s.f3 = true then noTold 6
  else if 4 ≤ ts.length ∨ 60000 ≤ nx then noTold 4
  else ⟨v + 1, ts ++ [⟨mx nx 1, s.f1, newCols 0 s.f3 s.f9, [], (s.f3.length : Int) + 1⟩], mx nx 1 + 1, 0, 0, 0⟩
def TellsE (w : World) (r : Told) (e : Ending) (w' : World) : Prop :=
  ∃ A c, e = .returned (.tuple #[.agg #[.int .i64 r.v, .slice A r.ts.length c, .int .i64 r.nx], .int .i64 r.err]) ∧ k70.R 70 w' w.heap.size (fun _ => True) (.slice A r.ts.length c) r.ts ∧ Below w.heap.size w w'
theorem tellse_no {w W : World} {R : Told} {n : Int} (hR : R = noTold n) (hb : Below w.heap.size w W) : TellsE w R (.returned (.tuple #[.agg #[.int .i64 0, .slice none 0 0, .int .i64 0], .int .i64 n])) W := by
  subst hR
  exact ⟨none, 0, rfl, Kd.R_nil _ _ _ _ _, hb⟩
theorem R_set3 {W : World} {B g : Nat} {u a b c : Value} {l : List S70} {cs : Array Value} (hS : k70.R 70 W B (fun _ => True) u l) (hx : W.heap[g]? = some (.cells cs 28 (0, 0))) :
    k70.R 70 (((W.setCell ⟨g, 0, none⟩ a).setCell ⟨g, 1, none⟩ b).setCell ⟨g, 2, none⟩ c) B (fun _ => True) u l := by
  have h1 := blk_put hx 0 a rfl
  have h2 := blk_put h1 1 b rfl
  exact Kd.R_set (Kd.R_set (Kd.R_set hS hx (by decide) 0 a) h1 (by decide) 1 b) h2 (by decide) 2 c
theorem tellse_ok {w W : World} {R : Told} {A : Option Addr} {n c : Nat} {v nx : Int} {ts : List S70} (hR : R = ⟨v, ts, nx, 0, 0, 0⟩) (hS : k70.R 70 W w.heap.size (fun _ => True) (.slice A n c) ts) (hb : Below w.heap.size w W) :
    TellsE w R (.returned (.tuple #[.agg #[.int .i64 v, .slice A n c, .int .i64 nx], .int .i64 0])) W := by
  subst hR
  obtain ⟨h0, h1, h2⟩ := Kd.R_reads' hS
  subst h0
  exact ⟨_, _, rfl, hS, hb⟩
structure CrSt (w2 wr : World) (id : Int) (nm_ : ByteArray) (n4 : Int) (cv : Value) (l : List S75) : Prop where
  below : Below w2.heap.size w2 wr
  box : wr.heap[w2.heap.size]? = some (.cells #[.int .i64 id, .string nm_, cv, .slice none 0 0, .int .i64 n4] 70 (0, 0))
  row : k75.R 75 wr w2.heap.size (fun _ => True) cv l
section
variable {w2 wr W W1 : World} {id n4 : Int} {nm_ : ByteArray} {cv cv1 : Value} {l : List S75} {x : S75}
theorem CrSt.step (h : CrSt w2 wr id nm_ n4 cv l) (hb : Below wr.heap.size wr W) : CrSt w2 W id nm_ n4 cv l := ⟨below_then h.below h.below.size hb, blk_below h.box hb, Kd.R_below h.row hb⟩
theorem CrSt.new (w2 : World) (id : Int) (nm_ : ByteArray) (n4 : Int) : CrSt w2 (w2.alloc (.cells #[.int .i64 id, .string nm_, .slice none 0 0, .slice none 0 0, .int .i64 n4] 70)) id nm_ n4 (.slice none 0 0) [] :=
  ⟨below_alloc (Below.refl _ _) _, heap_alloc_new w2 _, Kd.R_nil _ _ _ _ _⟩
theorem CrSt.next (h : CrSt w2 wr id nm_ n4 cv l) (hb : Below w2.heap.size w2 W1) (hg : wr.grownBy W1 cv.ownBlock) (hr : k75.R 75 W1 w2.heap.size (fun _ => True) cv1 (l ++ [x])) : CrSt w2 (W1.setCell ⟨w2.heap.size, 2, none⟩ cv1) id nm_ n4 cv1 (l ++ [x]) := by
  have hx := blk_grown h.box hg (Kd.R_ne h.row h.box (by decide))
  exact ⟨hb.setCell (Nat.le_refl _) _, blk_put hx 2 _ rfl, Kd.R_set hr hx (by decide) 2 _⟩
end
set_option maxRecDepth 100000 in
set_option maxHeartbeats 8000000 in
theorem create_calls (v : Int) (ts : List S70) (nx : Int) (s : S45) (hn : ts.length < 1000) (hw : ∀ t ∈ ts, ∀ c ∈ t.f2, ValWf c.f5)
    (A : Option Addr) (c : Nat) (w : World) (hc : ts.length ≤ c) (g2 : k70.C w A ts.length ts) (cs : List Value) (hs : k45.K w s cs) (hok : StmtOk s) :
    Calls Tryd.prog 29 #[.agg #[.int .i64 v, .slice A ts.length c, .int .i64 nx], .agg cs.toArray] w (TellsE w (createP v ts nx s)) := by
  obtain ⟨A3, c3, A4, c4, A5, c5, A6, c6, A9, c9, rfl, l3, g3, -, -, -, -, -, -, l9, g9⟩ := k45_open hs
  have HC3 := Aside0.mk g3
  have HC9 := Aside0.mk g9
  have HC := Aside0.mk g2
  have hl3 := hok.1
  have hl9 := hok.2.2.1
  obtain ⟨bx, hbx⟩ : ∃ b : Array Value, b = #[.int .i64 v, .slice A ts.length c, .int .i64 nx] := ⟨_, rfl⟩
  obtain ⟨sx, hsx⟩ : ∃ b : Array Value, b = #[.int .i64 s.f0, .string s.f1, .string s.f2, .slice A3 s.f3.length c3, .slice A4 s.f4.length c4, .slice A5 s.f5.length c5, .slice A6 s.f6.length c6, .bool s.f7, .int .i64 s.f8, .slice A9 s.f9.length c9] := ⟨_, rfl⟩
  have HX := Aside0.mk (Bxs.new w bx sx)
  have HM := Lib.hid (fun W (hb : Below w.heap.size w W) => rmay_calls v ts nx hw A c W hc (Kd.C_below g2 hb))
  have HN := Lib.hid (fun w => rname_calls s.f1 w)
  have HI := Lib.hid (show createP v ts nx s = _ by unfold createP; exact rfl)
  obtain ⟨R, hR⟩ : ∃ R, createP v ts nx s = R := ⟨_, rfl⟩
  rw [hR]
  rw [hR] at HI
  rw [hbx, hsx] at HX
  clear hs g2 g3 g9 hR hw
  cases hsch : schB v ts nx with
  | false =>
    have HR := Lib.hid (show R = noTold 3 by rw [HI.out, if_pos hsch])
    rw [hsch] at HM
    clear hsch HI
    go_enter Tryd.func29, Tryd.ntmps29
    go_wp2_with fail
    refine (HM.out _ HX.out.below).mono ?_
    rintro e w1 ⟨rfl, hb1⟩
    have HX1 := Aside0.mk (HX.out.step hb1)
    have f0 := blk_frozen HX1.out.b2 0
    have f1 := blk_frozen HX1.out.b2 1
    have f2 := blk_frozen HX1.out.b2 2
    have c0 := blk_cell (j := 0) (v := .int .i64 0) HX1.out.b2 rfl
    have c1 := blk_cell (j := 1) (v := .slice none 0 0) HX1.out.b2 rfl
    have c2 := blk_cell (j := 2) (v := .int .i64 0) HX1.out.b2 rfl
    clear hb1
    go_wp2
    refine bodyPost_ret (v := .tuple #[.agg #[.int .i64 0, .slice none 0 0, .int .i64 0], .int .i64 3]) (by simp [results, Tryd.results29, go_sem, c0, c1, c2]) rfl (tellse_no HR.out (HX1.out.out _ _ _))
  | true =>
    rw [hsch] at HM
    have HI2 := Lib.hid (HI.out.trans (if_neg (by rw [hsch]; simp)))
    have HB := Lib.hid hsch
    clear hsch HI
    go_enter Tryd.func29, Tryd.ntmps29
    go_wp2_with fail
    refine (HM.out _ HX.out.below).mono ?_
    rintro e w1 ⟨rfl, hb1⟩
    have HX1 := Aside0.mk (HX.out.step hb1)
    have x0 := blk_cell (j := 0) (v := .int .i64 v) HX1.out.b0 rfl
    clear hb1 HX HM
    by_cases hv : 1099511627775 ≤ v
    · have hd : decide (1099511627775 ≤ v) = true := decide_eq_true hv
      have HR := Lib.hid (show R = noTold 4 by rw [HI2.out, if_pos hv])
      have f0 := blk_frozen HX1.out.b2 0
      have f1 := blk_frozen HX1.out.b2 1
      have f2 := blk_frozen HX1.out.b2 2
      have c0 := blk_cell (j := 0) (v := .int .i64 0) HX1.out.b2 rfl
      have c1 := blk_cell (j := 1) (v := .slice none 0 0) HX1.out.b2 rfl
      have c2 := blk_cell (j := 2) (v := .int .i64 0) HX1.out.b2 rfl
      clear hv HI2
      go_wp2
      refine bodyPost_ret (v := .tuple #[.agg #[.int .i64 0, .slice none 0 0, .int .i64 0], .int .i64 4]) (by simp [results, Tryd.results29, go_sem, c0, c1, c2]) rfl (tellse_no HR.out (HX1.out.out _ _ _))
    have hd : decide (1099511627775 ≤ v) = false := decide_eq_false hv
    have HI3 := Lib.hid (HI2.out.trans (if_neg hv))
    have s0 := blk_cell (j := 0) (v := .int .i64 s.f0) HX1.out.b1 rfl
    have s1 := blk_cell (j := 1) (v := .string s.f1) HX1.out.b1 rfl
    have HV := Lib.hid hv
    clear HI2 hv
    by_cases hk5 : ¬ s.f0 = 5
    · have hd5 : (s.f0 != 5) = true := by simpa using hk5
      have HR := Lib.hid (show R = noTold 1 by rw [HI3.out, if_pos hk5])
      have f0 := blk_frozen HX1.out.b2 0
      have f1 := blk_frozen HX1.out.b2 1
      have f2 := blk_frozen HX1.out.b2 2
      have c0 := blk_cell (j := 0) (v := .int .i64 0) HX1.out.b2 rfl
      have c1 := blk_cell (j := 1) (v := .slice none 0 0) HX1.out.b2 rfl
      have c2 := blk_cell (j := 2) (v := .int .i64 0) HX1.out.b2 rfl
      clear hk5 HI3
      go_wp2
      refine bodyPost_ret (v := .tuple #[.agg #[.int .i64 0, .slice none 0 0, .int .i64 0], .int .i64 1]) (by simp [results, Tryd.results29, go_sem, c0, c1, c2]) rfl (tellse_no HR.out (HX1.out.out _ _ _))
    replace hk5 := Decidable.not_not.mp hk5
    have hd5 : (s.f0 != 5) = false := by simpa using hk5
    have HI4 := Lib.hid (HI3.out.trans (if_neg (by simpa using hk5)))
    clear HI3 hk5
    cases hnm : nameB s.f1 with
    | false =>
      have HR := Lib.hid (show R = noTold 3 by rw [HI4.out, if_pos (.inl hnm)])
      rw [hnm] at HN
      clear HI4 hnm
      go_wp2_with fail
      refine (HN.out _).mono ?_
      rintro e w2 ⟨rfl, hb2⟩
      have HX0 := HX1
      clear HX1
      have HX1 := Aside0.mk (HX0.out.step hb2)
      have f0 := blk_frozen HX1.out.b2 0
      have f1 := blk_frozen HX1.out.b2 1
      have f2 := blk_frozen HX1.out.b2 2
      have c0 := blk_cell (j := 0) (v := .int .i64 0) HX1.out.b2 rfl
      have c1 := blk_cell (j := 1) (v := .slice none 0 0) HX1.out.b2 rfl
      have c2 := blk_cell (j := 2) (v := .int .i64 0) HX1.out.b2 rfl
      clear hb2 s0 s1 x0
      go_wp2
      refine bodyPost_ret (v := .tuple #[.agg #[.int .i64 0, .slice none 0 0, .int .i64 0], .int .i64 3]) (by simp [results, Tryd.results29, go_sem, c0, c1, c2]) rfl (tellse_no HR.out (HX1.out.out _ _ _))
    | true =>
      rw [hnm] at HN
      go_wp2_with fail
      refine (HN.out _).mono ?_
      rintro e w2 ⟨rfl, hb2⟩
      have HX0 := HX1
      clear HX1
      have HX1 := Aside0.mk (HX0.out.step hb2)
      clear hb2 s0 s1 x0 HX0 HN
      have s3 := blk_cell (j := 3) (v := .slice A3 s.f3.length c3) HX1.out.b1 rfl
      have s9 := blk_cell (j := 9) (v := .slice A9 s.f9.length c9) HX1.out.b1 rfl
      by_cases hl : ¬ s.f3.length = s.f9.length
      · have hdl : ((s.f3.length : Int) != (s.f9.length : Int)) = true := by rw [bne_iff_ne]; omega
        have HR := Lib.hid (show R = noTold 3 by rw [HI4.out, if_pos (.inr (.inl hl))])
        have f0 := blk_frozen HX1.out.b2 0
        have f1 := blk_frozen HX1.out.b2 1
        have f2 := blk_frozen HX1.out.b2 2
        have c0 := blk_cell (j := 0) (v := .int .i64 0) HX1.out.b2 rfl
        have c1 := blk_cell (j := 1) (v := .slice none 0 0) HX1.out.b2 rfl
        have c2 := blk_cell (j := 2) (v := .int .i64 0) HX1.out.b2 rfl
        clear HI4 hl hnm
        go_wp2
        refine bodyPost_ret (v := .tuple #[.agg #[.int .i64 0, .slice none 0 0, .int .i64 0], .int .i64 3]) (by simp [results, Tryd.results29, go_sem, c0, c1, c2]) rfl (tellse_no HR.out (HX1.out.out _ _ _))
      replace hl := Decidable.not_not.mp hl
      have hdl : ((s.f3.length : Int) != (s.f9.length : Int)) = false := by rw [bne_eq_false_iff_eq]; omega
      by_cases hl1 : s.f3.length < 1
      · have hd1 : decide ((s.f3.length : Int) < 1) = true := decide_eq_true (by omega)
        have HR := Lib.hid (show R = noTold 3 by rw [HI4.out, if_pos (.inr (.inr (.inl hl1)))])
        have f0 := blk_frozen HX1.out.b2 0
        have f1 := blk_frozen HX1.out.b2 1
        have f2 := blk_frozen HX1.out.b2 2
        have c0 := blk_cell (j := 0) (v := .int .i64 0) HX1.out.b2 rfl
        have c1 := blk_cell (j := 1) (v := .slice none 0 0) HX1.out.b2 rfl
        have c2 := blk_cell (j := 2) (v := .int .i64 0) HX1.out.b2 rfl
        clear HI4 hl hl1 hnm
        go_wp2
        refine bodyPost_ret (v := .tuple #[.agg #[.int .i64 0, .slice none 0 0, .int .i64 0], .int .i64 3]) (by simp [results, Tryd.results29, go_sem, c0, c1, c2]) rfl (tellse_no HR.out (HX1.out.out _ _ _))
      have hd1 : decide ((s.f3.length : Int) < 1) = false := decide_eq_false (by omega)
      by_cases hl8 : 8 < s.f3.length
      · have hd8 : decide (8 < (s.f3.length : Int)) = true := decide_eq_true (by omega)
        have HR := Lib.hid (show R = noTold 3 by rw [HI4.out, if_pos (.inr (.inr (.inr hl8)))])
        have f0 := blk_frozen HX1.out.b2 0
        have f1 := blk_frozen HX1.out.b2 1
        have f2 := blk_frozen HX1.out.b2 2
        have c0 := blk_cell (j := 0) (v := .int .i64 0) HX1.out.b2 rfl
        have c1 := blk_cell (j := 1) (v := .slice none 0 0) HX1.out.b2 rfl
        have c2 := blk_cell (j := 2) (v := .int .i64 0) HX1.out.b2 rfl
        clear HI4 hl hl1 hl8 hnm
        go_wp2
        refine bodyPost_ret (v := .tuple #[.agg #[.int .i64 0, .slice none 0 0, .int .i64 0], .int .i64 3]) (by simp [results, Tryd.results29, go_sem, c0, c1, c2]) rfl (tellse_no HR.out (HX1.out.out _ _ _))
      have hd8 : decide (8 < (s.f3.length : Int)) = false := decide_eq_false (by omega)
      have HI5 := Lib.hid (HI4.out.trans (if_neg (show ¬ (nameB s.f1 = false ∨ s.f3.length ≠ s.f9.length ∨ s.f3.length < 1 ∨ 8 < s.f3.length) from fun h => h.elim (fun h => by rw [hnm] at h; cases h) (fun h => h.elim (fun h => h hl) (fun h => h.elim hl1 hl8)))))
      have HLL := Lib.hid hl
      have hlo : 1 ≤ s.f3.length := by omega
      have hhi : s.f3.length ≤ 8 := by omega
      have hnn : 0 ≤ nx ∧ nx < 1099511627776 := by have := HB.out; unfold schB at this; simp only [Bool.and_eq_true, decide_eq_true_eq] at this; exact ⟨this.2.2.1, this.2.2.2.1⟩
      obtain ⟨hn0, hn1⟩ := hnn
      have x2 := blk_cell (j := 2) (v := .int .i64 nx) HX1.out.b0 rfl
      have s1 := blk_cell (j := 1) (v := .string s.f1) HX1.out.b1 rfl
      obtain ⟨id, hid⟩ : ∃ id, mx nx 1 = id := ⟨_, rfl⟩
      have hm : (if nx < 1 then (1 : Int) else nx) = id := hid
      have HID := Lib.hid hid
      have hid0 : 1 ≤ id ∧ id < 1099511627776 := by rw [← hid]; unfold mx; split <;> omega
      clear HI4 hl hl1 hl8 hnm hid
      go_wp2_with fail
      clear hm hdl hd1 hd8 hd hd5 x2 s1
      have HS0 := Aside0.mk (CrSt.new w2 id s.f1 ((s.f3.length : Int) + 1))
      clear s3 s9
      go_loopg [7] s.f3.length (fun gg u7 wr => ∃ j : Nat, ∃ cv : Value, ∃ l : List S75, j ≤ s.f3.length ∧ s.f3.length - j ≤ gg ∧ u7 = .int .i64 j ∧ Aside0 (CrSt w2 wr id s.f1 ((s.f3.length : Int) + 1) cv l) ∧ Aside0 (l.length = j) ∧ Aside0 (badCols s.f3 s.f9 = badCols (s.f3.drop j) (s.f9.drop j)) ∧ Aside0 (newCols 0 s.f3 s.f9 = l ++ newCols j (s.f3.drop j) (s.f9.drop j)))
      case atStart => exact ⟨0, _, [], Nat.zero_le _, by omega, rfl, HS0, ⟨rfl⟩, ⟨by rw [List.drop_zero, List.drop_zero]⟩, ⟨by rw [List.drop_zero, List.drop_zero]; rfl⟩⟩
      case round =>
        clear HS0
        obtain ⟨j, cv, l, hj, hgj, rfl, HS, HJ, HA1, HA2⟩ := hrel
        obtain ⟨Ac, cc, hcv⟩ := Kd.R_slice HS.out.row
        rw [HJ.out] at hcv
        subst hcv
        have hXr := HX1.out.step HS.out.below
        have HXr := Aside0.mk hXr
        have s3 := blk_cell (j := 3) (v := .slice A3 s.f3.length c3) hXr.b1 rfl
        have s9 := blk_cell (j := 9) (v := .slice A9 s.f9.length c9) hXr.b1 rfl
        clear hXr
        by_cases hlt : j < s.f3.length
        · have hltz : (j : Int) < (s.f3.length : Int) := by omega
          have hlt9 : j < s.f9.length := by have := HLL.out; omega
          have hltz9 : (j : Int) < (s.f9.length : Int) := by omega
          obtain ⟨a3, eA3, es⟩ := at_str (Kd.C_below HC3.out HXr.out.below) j hlt
          obtain ⟨a9, eA9, e9⟩ := at_int (Kd.C_below HC9.out HXr.out.below) j hlt9
          cases eA3
          cases eA9
          have hA1 := HA1.out
          have hA2 := HA2.out
          rw [List.drop_eq_getElem_cons hlt, List.drop_eq_getElem_cons hlt9] at hA1 hA2
          generalize s.f3[j] = nme at es hA1 hA2
          generalize s.f9[j] = kd at e9 hA1 hA2
          have hN := Lib.hid (fun w => rname_calls nme w)
          have HE9 := Aside0.mk e9
          have HES := Aside0.mk es
          clear HA1 HA2
          cases hnn : nameB nme with
          | false =>
            rw [hnn] at hN
            have HR := Lib.hid (show R = noTold 3 by rw [HI5.out, if_pos (by rw [hA1]; unfold badCols; rw [hnn]; rfl)])
            clear hA1 hA2 hnn e9
            go_wp2_with fail
            refine (hN.out _).mono ?_
            rintro e w4 ⟨rfl, hb4⟩
            have HX0 := HX1
            clear HX1
            have HX1 := Aside0.mk (HXr.out.step hb4)
            have f0 := blk_frozen HX1.out.b2 0
            have f1 := blk_frozen HX1.out.b2 1
            have f2 := blk_frozen HX1.out.b2 2
            have c0 := blk_cell (j := 0) (v := .int .i64 0) HX1.out.b2 rfl
            have c1 := blk_cell (j := 1) (v := .slice none 0 0) HX1.out.b2 rfl
            have c2 := blk_cell (j := 2) (v := .int .i64 0) HX1.out.b2 rfl
            clear hb4 s3 s9 es
            go_wp2
            refine bodyPost_ret (v := .tuple #[.agg #[.int .i64 0, .slice none 0 0, .int .i64 0], .int .i64 3]) (by simp [results, Tryd.results29, go_sem, c0, c1, c2]) rfl (tellse_no HR.out (HX1.out.out _ _ _))
          | true =>
            rw [hnn] at hN
            go_wp2_with fail
            refine (hN.out _).mono ?_
            rintro e w4 ⟨rfl, hb4⟩
            have HX4 := Aside0.mk (HXr.out.step hb4)
            have HS4 := Aside0.mk (HS.out.step hb4)
            have s3' := blk_cell (j := 3) (v := .slice (some a3) s.f3.length c3) HX4.out.b1 rfl
            have s9' := blk_cell (j := 9) (v := .slice (some a9) s.f9.length c9) HX4.out.b1 rfl
            have e9' := pw_cell_below hb4 HE9.out
            have es' := pw_cell_below hb4 HES.out
            clear s3 s9 e9 es hb4 hN
            by_cases hk1 : kd < 1
            · have hd1 : decide (kd < 1) = true := decide_eq_true hk1
              have HR := Lib.hid (show R = noTold 3 by rw [HI5.out, if_pos (by rw [hA1]; unfold badCols; rw [hnn, hd1]; rfl)])
              have HX0 := HX1
              clear HX1
              have HX1 := HX4
              have f0 := blk_frozen HX1.out.b2 0
              have f1 := blk_frozen HX1.out.b2 1
              have f2 := blk_frozen HX1.out.b2 2
              have c0 := blk_cell (j := 0) (v := .int .i64 0) HX1.out.b2 rfl
              have c1 := blk_cell (j := 1) (v := .slice none 0 0) HX1.out.b2 rfl
              have c2 := blk_cell (j := 2) (v := .int .i64 0) HX1.out.b2 rfl
              clear hk1 hA1 hA2 hnn
              go_wp2
              refine bodyPost_ret (v := .tuple #[.agg #[.int .i64 0, .slice none 0 0, .int .i64 0], .int .i64 3]) (by simp [results, Tryd.results29, go_sem, c0, c1, c2]) rfl (tellse_no HR.out (HX1.out.out _ _ _))
            have hd1 : decide (kd < 1) = false := decide_eq_false hk1
            by_cases hk5 : 5 < kd
            · have hd5 : decide (5 < kd) = true := decide_eq_true hk5
              have HR := Lib.hid (show R = noTold 3 by rw [HI5.out, if_pos (by rw [hA1]; unfold badCols; rw [hnn, hd1, hd5]; rfl)])
              have HX0 := HX1
              clear HX1
              have HX1 := HX4
              have f0 := blk_frozen HX1.out.b2 0
              have f1 := blk_frozen HX1.out.b2 1
              have f2 := blk_frozen HX1.out.b2 2
              have c0 := blk_cell (j := 0) (v := .int .i64 0) HX1.out.b2 rfl
              have c1 := blk_cell (j := 1) (v := .slice none 0 0) HX1.out.b2 rfl
              have c2 := blk_cell (j := 2) (v := .int .i64 0) HX1.out.b2 rfl
              clear hk1 hk5 hA1 hA2 hnn
              go_wp2
              refine bodyPost_ret (v := .tuple #[.agg #[.int .i64 0, .slice none 0 0, .int .i64 0], .int .i64 3]) (by simp [results, Tryd.results29, go_sem, c0, c1, c2]) rfl (tellse_no HR.out (HX1.out.out _ _ _))
            have hd5 : decide (5 < kd) = false := decide_eq_false hk5
            have HA1 := Aside0.mk (show badCols s.f3 s.f9 = badCols (s.f3.drop (j + 1)) (s.f9.drop (j + 1)) by rw [hA1]; conv => lhs; unfold badCols; rw [hnn, hd1, hd5, Bool.not_true, Bool.false_or, Bool.false_or, Bool.false_or])
            have HA2 := Aside0.mk (show newCols 0 s.f3 s.f9 = (l ++ [⟨(j : Int) + 1, nme, kd, 4, if j = 0 then 4 else 0, z73⟩]) ++ newCols (j + 1) (s.f3.drop (j + 1)) (s.f9.drop (j + 1)) by rw [hA2, List.append_assoc]; rfl)
            have hq1 : w2.heap.size < w4.heap.size := lt_of_block HS4.out.box
            have hq2 : w.heap.size + 1 < w4.heap.size := lt_of_block HX4.out.b1
            have hq3 : (a3.add j).block < w4.heap.size := World.block_lt_of_cell? w4 _ es'
            have hq4 : (a9.add j).block < w4.heap.size := World.block_lt_of_cell? w4 _ e9'
            clear hA1 hA2 hnn hk1 hk5
            go_wp2_with fail
            by_cases j0 : j = 0
            · have hj0 : ((j : Int) == 0) = true := by simpa using j0
              have HA2' := Lib.hid HA2.out
              rw [if_pos j0] at HA2'
              clear j0
              go_region
              have hb5 : Below w4.heap.size w4 (w4.alloc (.cells #[.int .i64 ((j : Int) + 1), .string nme, .int .i64 kd, .int .i64 4, .int .i64 0, .int .i64 0, .int .i64 0, .int .u64 0, .string ⟨#[]⟩] 75)).drew := below_drew (below_alloc (Below.refl _ _) _)
              have hx5 : (w4.alloc (.cells #[.int .i64 ((j : Int) + 1), .string nme, .int .i64 kd, .int .i64 4, .int .i64 0, .int .i64 0, .int .i64 0, .int .u64 0, .string ⟨#[]⟩] 75)).drew.heap[w4.heap.size]? = _ := heap_alloc_new w4 _
              generalize (w4.alloc (.cells #[.int .i64 ((j : Int) + 1), .string nme, .int .i64 kd, .int .i64 4, .int .i64 0, .int .i64 0, .int .i64 0, .int .u64 0, .string ⟨#[]⟩] 75)).drew = w5 at hb5 hx5 ⊢
              have k0 := blk_cell (j := 0) (v := .int .i64 ((j : Int) + 1)) hx5 rfl
              have k1 := blk_cell (j := 1) (v := .string nme) hx5 rfl
              have k2 := blk_cell (j := 2) (v := .int .i64 kd) hx5 rfl
              have k3 := blk_cell (j := 3) (v := .int .i64 4) hx5 rfl
              have k4 := blk_cell (j := 4) (v := .int .i64 0) hx5 rfl
              have k5 := blk_cell (j := 5) (v := .int .i64 0) hx5 rfl
              have k6 := blk_cell (j := 6) (v := .int .i64 0) hx5 rfl
              have k7 := blk_cell (j := 7) (v := .int .u64 0) hx5 rfl
              have k8 := blk_cell (j := 8) (v := .string ⟨#[]⟩) hx5 rfl
              have k4f := blk_frozen hx5 4
              have hb6 := hb5.setCell (p := ⟨w4.heap.size, 4, none⟩) (Nat.le_refl _) (.int .i64 4)
              have HSZ := Lib.hid (show (w5.setCell ⟨w4.heap.size, 4, none⟩ (.int .i64 4)).heap.size = w5.heap.size by simp)
              have HS5 := Aside0.mk (HS4.out.step hb6)
              have hS5 := HS4.out.step hb5
              have d2 := blk_cell (j := 2) (v := .slice Ac j cc) hS5.box rfl
              have hne : w2.heap.size ≠ w4.heap.size := blk_ne hS5.box hx5 (by decide)
              clear hq1 hq2 hq3 hq4 es' e9' s3' s9' hb5 hx5 hS5 hb6
              go_wp2_with ((with_reducible refine gate_builtin (b := .append) (xs := #[.tmp 106, .tmp 108]) rfl ?_); at_builtin; refine Kd.R_append k75 (w0 := w2) w2.heap.size rfl (.tmp 106) (.tmp 108) 67 75 (.agg #[(.int .i64 0), (.string ⟨#[]⟩), (.int .i64 0), (.int .i64 0), (.int .i64 0), (.int .i64 0), (.int .i64 0), (.int .u64 0), (.string ⟨#[]⟩)]) 88 rfl Tryd.underlying67 info75 rfl (by decide) (by omega) (.slice Ac j cc) l (⟨(j : Int) + 1, nme, kd, 4, 4, z73⟩ : S75) [.int .i64 ((j : Int) + 1), .string nme, .int .i64 kd, .int .i64 4, .int .i64 4, .int .i64 0, .int .i64 0, .int .u64 0, .string ⟨#[]⟩] (fun _ => True) (fun _ => False) rfl ?aX (k75_mkM _ _ _ _) (fun _ h => h.elim) (fun _ _ => trivial) HS5.out.row HS5.out.below HS5.out.below.size (by rw [HJ.out]; omega) ?_; (case aX => rw [HSZ.out]; rfl); intro v6 w6 hr hb7 hg6 hat6; obtain ⟨A6, c6, h6⟩ := Kd.R_slice hr; rw [show (l ++ [(⟨(j : Int) + 1, nme, kd, 4, 4, z73⟩ : S75)]).length = j + 1 by rw [List.length_append, HJ.out]; rfl] at h6; subst h6; have hx6 := blk_grown HS5.out.box hg6 (Kd.R_ne HS5.out.row HS5.out.box (by decide)); have HF := Aside0.mk (HS5.out.next hb7 hg6 hr); have d6 := blk_cell (j := 2) (v := .slice Ac j cc) hx6 rfl; have f6 := blk_frozen hx6 2; clear hr hb7 hg6 hat6 hx6 k0 k1 k2 k3 k4 k5 k6 k7 k8 d2)
              go_roundg (s.f3.length - (j + 1))
              case measure => omega
              case rel => exact ⟨j + 1, _, l ++ [⟨(j : Int) + 1, nme, kd, 4, 4, z73⟩], by omega, by omega, by go_num, HF, ⟨by rw [List.length_append, HJ.out]; rfl⟩, HA1, ⟨HA2'.out⟩⟩
            · have hj0 : ((j : Int) == 0) = false := by simpa using j0
              have HA2' := Lib.hid HA2.out
              rw [if_neg j0] at HA2'
              clear j0
              go_region
              have hb5 : Below w4.heap.size w4 (w4.alloc (.cells #[.int .i64 ((j : Int) + 1), .string nme, .int .i64 kd, .int .i64 4, .int .i64 0, .int .i64 0, .int .i64 0, .int .u64 0, .string ⟨#[]⟩] 75)).drew := below_drew (below_alloc (Below.refl _ _) _)
              have hx5 : (w4.alloc (.cells #[.int .i64 ((j : Int) + 1), .string nme, .int .i64 kd, .int .i64 4, .int .i64 0, .int .i64 0, .int .i64 0, .int .u64 0, .string ⟨#[]⟩] 75)).drew.heap[w4.heap.size]? = _ := heap_alloc_new w4 _
              generalize (w4.alloc (.cells #[.int .i64 ((j : Int) + 1), .string nme, .int .i64 kd, .int .i64 4, .int .i64 0, .int .i64 0, .int .i64 0, .int .u64 0, .string ⟨#[]⟩] 75)).drew = w5 at hb5 hx5 ⊢
              have k0 := blk_cell (j := 0) (v := .int .i64 ((j : Int) + 1)) hx5 rfl
              have k1 := blk_cell (j := 1) (v := .string nme) hx5 rfl
              have k2 := blk_cell (j := 2) (v := .int .i64 kd) hx5 rfl
              have k3 := blk_cell (j := 3) (v := .int .i64 4) hx5 rfl
              have k4 := blk_cell (j := 4) (v := .int .i64 0) hx5 rfl
              have k5 := blk_cell (j := 5) (v := .int .i64 0) hx5 rfl
              have k6 := blk_cell (j := 6) (v := .int .i64 0) hx5 rfl
              have k7 := blk_cell (j := 7) (v := .int .u64 0) hx5 rfl
              have k8 := blk_cell (j := 8) (v := .string ⟨#[]⟩) hx5 rfl
              have HS5 := Aside0.mk (HS4.out.step hb5)
              have hS5 := HS4.out.step hb5
              have d2 := blk_cell (j := 2) (v := .slice Ac j cc) hS5.box rfl
              have hne : w2.heap.size ≠ w4.heap.size := blk_ne hS5.box hx5 (by decide)
              clear hq1 hq2 hq3 hq4 es' e9' s3' s9' hb5 hx5 hS5
              go_wp2_with ((with_reducible refine gate_builtin (b := .append) (xs := #[.tmp 106, .tmp 108]) rfl ?_); at_builtin; refine Kd.R_append k75 (w0 := w2) w2.heap.size rfl (.tmp 106) (.tmp 108) 67 75 (.agg #[(.int .i64 0), (.string ⟨#[]⟩), (.int .i64 0), (.int .i64 0), (.int .i64 0), (.int .i64 0), (.int .i64 0), (.int .u64 0), (.string ⟨#[]⟩)]) 88 rfl Tryd.underlying67 info75 rfl (by decide) (by omega) (.slice Ac j cc) l (⟨(j : Int) + 1, nme, kd, 4, 0, z73⟩ : S75) [.int .i64 ((j : Int) + 1), .string nme, .int .i64 kd, .int .i64 4, .int .i64 0, .int .i64 0, .int .i64 0, .int .u64 0, .string ⟨#[]⟩] (fun _ => True) (fun _ => False) rfl rfl (k75_mkM _ _ _ _) (fun _ h => h.elim) (fun _ _ => trivial) HS5.out.row HS5.out.below HS5.out.below.size (by rw [HJ.out]; omega) ?_; intro v6 w6 hr hb7 hg6 hat6; obtain ⟨A6, c6, h6⟩ := Kd.R_slice hr; rw [show (l ++ [(⟨(j : Int) + 1, nme, kd, 4, 0, z73⟩ : S75)]).length = j + 1 by rw [List.length_append, HJ.out]; rfl] at h6; subst h6; have hx6 := blk_grown HS5.out.box hg6 (Kd.R_ne HS5.out.row HS5.out.box (by decide)); have HF := Aside0.mk (HS5.out.next hb7 hg6 hr); have d6 := blk_cell (j := 2) (v := .slice Ac j cc) hx6 rfl; have f6 := blk_frozen hx6 2; clear hr hb7 hg6 hat6 hx6 k0 k1 k2 k3 k4 k5 k6 k7 k8 d2)
              go_roundg (s.f3.length - (j + 1))
              case measure => omega
              case rel => exact ⟨j + 1, _, l ++ [⟨(j : Int) + 1, nme, kd, 4, 0, z73⟩], by omega, by omega, by go_num, HF, ⟨by rw [List.length_append, HJ.out]; rfl⟩, HA1, ⟨HA2'.out⟩⟩
        · have hltz : ¬ (j : Int) < (s.f3.length : Int) := by omega
          have hA1 : badCols s.f3 s.f9 = false := by rw [HA1.out, List.drop_eq_nil_of_le (by omega)]; unfold badCols; rfl
          have hA2 : newCols 0 s.f3 s.f9 = l := by rw [HA2.out, List.drop_eq_nil_of_le (by omega)]; unfold newCols; exact List.append_nil l
          have HI6 := Lib.hid (HI5.out.trans (if_neg (by rw [hA1]; simp)))
          have HNC := Lib.hid hA2
          have HT := Lib.hid (fun W (hb : Below w.heap.size w W) => rtabn_calls v ts nx s.f1 hn A c W hc (Kd.C_below HC.out hb))
          obtain ⟨ix, hix⟩ : ∃ ix, idxL (tName s.f1) ts 0 = ix := ⟨_, rfl⟩
          have hia := idxL_at (tName s.f1) ts
          rw [hix] at HT HI6 hia
          have x0 := blk_cell (j := 0) (v := .int .i64 v) HXr.out.b0 rfl
          have x1 := blk_cell (j := 1) (v := .slice A ts.length c) HXr.out.b0 rfl
          have x2 := blk_cell (j := 2) (v := .int .i64 nx) HXr.out.b0 rfl
          have s1 := blk_cell (j := 1) (v := .string s.f1) HXr.out.b1 rfl
          clear hA1 hA2 HA1 HA2 HI5 hix s9
          go_wp2_with fail
          refine (HT.out _ HXr.out.below).mono ?_
          rintro e w5 ⟨rfl, hb5⟩
          have HX5 := Aside0.mk (HXr.out.step hb5)
          have HS5 := Aside0.mk (HS.out.step hb5)
          clear x0 x1 x2 s1 s3 hb5 HT
          rcases Classical.em (∃ k : Nat, k < ts.length ∧ ix = (k : Int)) with ⟨k, hk, rfl⟩ | hno
          · have HR := Lib.hid (show R = noTold 6 by rw [HI6.out, if_pos (.inl (by omega))])
            have hk0 : (0 : Int) ≤ (k : Int) := by omega
            have HX0 := HX1
            clear HX1
            have HX1 := HX5
            have f0 := blk_frozen HX1.out.b2 0
            have f1 := blk_frozen HX1.out.b2 1
            have f2 := blk_frozen HX1.out.b2 2
            have c0 := blk_cell (j := 0) (v := .int .i64 0) HX1.out.b2 rfl
            have c1 := blk_cell (j := 1) (v := .slice none 0 0) HX1.out.b2 rfl
            have c2 := blk_cell (j := 2) (v := .int .i64 0) HX1.out.b2 rfl
            clear HI6 hia
            go_wp2
            refine bodyPost_ret (v := .tuple #[.agg #[.int .i64 0, .slice none 0 0, .int .i64 0], .int .i64 6]) (by simp [results, Tryd.results29, go_sem, c0, c1, c2]) rfl (tellse_no HR.out (HX1.out.out _ _ _))
          obtain rfl : ix = -1 := hia.elim (fun h => h) (fun ⟨k, hk, h, _⟩ => absurd ⟨k, hk, h⟩ hno)
          have s3 := blk_cell (j := 3) (v := .slice A3 s.f3.length c3) HX5.out.b1 rfl
          clear hno hia
          have HTW := Lib.hid (fun W (hb : Below w.heap.size w W) => rtwice_calls s.f3 (by omega) A3 c3 W l3 (Kd.C_below HC3.out hb))
          go_wp2_with fail
          refine (HTW.out _ HX5.out.below).mono ?_
          rintro e w6 ⟨rfl, hb6⟩
          have HX6 := Aside0.mk (HX5.out.step hb6)
          have HS6 := Aside0.mk (HS5.out.step hb6)
          clear hb6 s3 HTW
          cases htw : twiceB [] s.f3 with
          | true =>
            have HR := Lib.hid (show R = noTold 6 by rw [HI6.out, if_pos (.inr htw)])
            have HX0 := HX1
            clear HX1
            have HX1 := HX6
            have f0 := blk_frozen HX1.out.b2 0
            have f1 := blk_frozen HX1.out.b2 1
            have f2 := blk_frozen HX1.out.b2 2
            have c0 := blk_cell (j := 0) (v := .int .i64 0) HX1.out.b2 rfl
            have c1 := blk_cell (j := 1) (v := .slice none 0 0) HX1.out.b2 rfl
            have c2 := blk_cell (j := 2) (v := .int .i64 0) HX1.out.b2 rfl
            clear HI6 htw
            go_wp2
            refine bodyPost_ret (v := .tuple #[.agg #[.int .i64 0, .slice none 0 0, .int .i64 0], .int .i64 6]) (by simp [results, Tryd.results29, go_sem, c0, c1, c2]) rfl (tellse_no HR.out (HX1.out.out _ _ _))
          | false =>
            have HI7 := Lib.hid (HI6.out.trans (if_neg (show ¬ ((0 : Int) ≤ -1 ∨ twiceB [] s.f3 = true) from fun h => h.elim (by omega) (fun h => by rw [htw] at h; cases h))))
            have x1 := blk_cell (j := 1) (v := .slice A ts.length c) HX6.out.b0 rfl
            have x2 := blk_cell (j := 2) (v := .int .i64 nx) HX6.out.b0 rfl
            clear HI6 htw
            by_cases h4 : 4 ≤ ts.length
            · have hd4 : decide ((4 : Int) ≤ (ts.length : Int)) = true := decide_eq_true (by omega)
              have HR := Lib.hid (show R = noTold 4 by rw [HI7.out, if_pos (.inl h4)])
              have HX0 := HX1
              clear HX1
              have HX1 := HX6
              have f0 := blk_frozen HX1.out.b2 0
              have f1 := blk_frozen HX1.out.b2 1
              have f2 := blk_frozen HX1.out.b2 2
              have c0 := blk_cell (j := 0) (v := .int .i64 0) HX1.out.b2 rfl
              have c1 := blk_cell (j := 1) (v := .slice none 0 0) HX1.out.b2 rfl
              have c2 := blk_cell (j := 2) (v := .int .i64 0) HX1.out.b2 rfl
              clear HI7 h4
              go_wp2
              refine bodyPost_ret (v := .tuple #[.agg #[.int .i64 0, .slice none 0 0, .int .i64 0], .int .i64 4]) (by simp [results, Tryd.results29, go_sem, c0, c1, c2]) rfl (tellse_no HR.out (HX1.out.out _ _ _))
            have hd4 : decide ((4 : Int) ≤ (ts.length : Int)) = false := decide_eq_false (by omega)
            by_cases h6 : 60000 ≤ nx
            · have hd6 : decide (60000 ≤ nx) = true := decide_eq_true h6
              have HR := Lib.hid (show R = noTold 4 by rw [HI7.out, if_pos (.inr h6)])
              have HX0 := HX1
              clear HX1
              have HX1 := HX6
              have f0 := blk_frozen HX1.out.b2 0
              have f1 := blk_frozen HX1.out.b2 1
              have f2 := blk_frozen HX1.out.b2 2
              have c0 := blk_cell (j := 0) (v := .int .i64 0) HX1.out.b2 rfl
              have c1 := blk_cell (j := 1) (v := .slice none 0 0) HX1.out.b2 rfl
              have c2 := blk_cell (j := 2) (v := .int .i64 0) HX1.out.b2 rfl
              clear HI7 h4 h6
              go_wp2
              refine bodyPost_ret (v := .tuple #[.agg #[.int .i64 0, .slice none 0 0, .int .i64 0], .int .i64 4]) (by simp [results, Tryd.results29, go_sem, c0, c1, c2]) rfl (tellse_no HR.out (HX1.out.out _ _ _))
            have hd6 : decide (60000 ≤ nx) = false := decide_eq_false h6
            have HR := Lib.hid (HI7.out.trans (if_neg (show ¬ (4 ≤ ts.length ∨ 60000 ≤ nx) from fun h => h.elim h4 h6)))
            have x0 := blk_cell (j := 0) (v := .int .i64 v) HX6.out.b0 rfl
            have hv1 : v < 1099511627775 := by have := HV.out; omega
            have hv0 : 0 ≤ v := by have := HB.out; unfold schB at this; simp only [Bool.and_eq_true, decide_eq_true_eq] at this; exact this.1
            have hlts : ts.length < 4 := by omega
            clear HI7 h4 h6
            go_wp2_with fail
            refine (copy_calls v ts nx (schB_small HB.out) A c w6 hc (Kd.C_below HC.out HX6.out.below)).mono ?_
            rintro e w7 ⟨u, rfl, hS, hb7⟩
            have HU := Aside0.mk (Kd.S_R (Kd.S_lower hS HX6.out.below.size))
            have HX7 := Aside0.mk (HX6.out.step hb7)
            have HS7 := Aside0.mk (HS6.out.step hb7)
            obtain ⟨hid1, hid2⟩ := hid0
            obtain ⟨Au, cu, hu⟩ := Kd.S_slice hS
            subst hu
            clear hS hb7 x0 x1 x2 hd4 hd6
            have z0 := blk_cell (j := 0) (v := .int .i64 id) HS7.out.box rfl
            have z1 := blk_cell (j := 1) (v := .string s.f1) HS7.out.box rfl
            have z2 := blk_cell (j := 2) (v := .slice Ac j cc) HS7.out.box rfl
            have z3 := blk_cell (j := 3) (v := .slice none 0 0) HS7.out.box rfl
            have z4 := blk_cell (j := 4) (v := .int .i64 ((s.f3.length : Int) + 1)) HS7.out.box rfl
            have hq1 : w2.heap.size < w7.heap.size := lt_of_block HS7.out.box
            have HW8 := Aside0.mk (below_alloc (Below.refl _ w7) (.cells #[.int .i64 (v + 1), .slice Au ts.length cu, .int .i64 (id + 1)] 28))
            have HU8 := Aside0.mk (Kd.R_below HU.out HW8.out)
            have HS8 := Aside0.mk (HS7.out.step HW8.out)
            have HX8 := Aside0.mk (HX7.out.step HW8.out)
            have HY8 := Aside0.mk (heap_alloc_new w7 (.cells #[.int .i64 (v + 1), .slice Au ts.length cu, .int .i64 (id + 1)] 28))
            have hq2 : w.heap.size + 1 + 1 < w7.heap.size := lt_of_block HX7.out.b2
            have HSZ8 := Lib.hid (show (w7.alloc (.cells #[.int .i64 (v + 1), .slice Au ts.length cu, .int .i64 (id + 1)] 28)).heap.size = w7.heap.size + 1 by simp)
            have HCL := Aside0.mk (Kd.R_apart' (Kd.R_lower HS8.out.row HX1.out.below.size) (Kd.R_typed HU8.out) (by decide))
            go_wp2_with ((with_reducible refine gate_builtin (b := .append) (xs := #[.tmp 143, .tmp 145]) rfl ?_); at_builtin; refine Kd.R_append k70 (w0 := w) w.heap.size rfl (.tmp 143) (.tmp 145) 26 70 (.agg #[(.int .i64 0), (.string ⟨#[]⟩), (.slice none 0 0), (.slice none 0 0), (.int .i64 0)]) 80 rfl Tryd.underlying26 info70 rfl (by decide) (by omega) (.slice Au ts.length cu) ts (⟨id, s.f1, l, [], (s.f3.length : Int) + 1⟩ : S70) [.int .i64 id, .string s.f1, .slice Ac j cc, .slice none 0 0, .int .i64 ((s.f3.length : Int) + 1)] (fun _ => True) (fun k => True ∧ some k ≠ (Value.slice Au ts.length cu).ownBlock) rfl ?aX (k70_mkM _ _ _ (⟨id, s.f1, l, [], (s.f3.length : Int) + 1⟩ : S70) HCL.out (Kd.R_nil _ _ _ _ _)) (fun _ hk => hk) (fun _ _ => trivial) HU8.out HX8.out.below HX8.out.below.size (by omega) ?_; (case aX => rw [HSZ8.out]; rfl); intro v9 w9 hr hb9 hg9 hat9; obtain ⟨A9', c9', h9⟩ := Kd.R_slice hr; rw [show (ts ++ [(⟨id, s.f1, l, [], (s.f3.length : Int) + 1⟩ : S70)]).length = ts.length + 1 by simp] at h9; subst h9; have HR9 := Aside0.mk hr; have hne9 : ∀ {g : Nat} {cs : Array Value}, (w7.alloc (.cells #[.int .i64 (v + 1), .slice Au ts.length cu, .int .i64 (id + 1)] 28)).heap[g]? = some (.cells cs 28 (0, 0)) → some g ≠ (Value.slice Au ts.length cu).ownBlock := fun hx => Kd.R_ne HU8.out hx (by decide); have HY9 := Aside0.mk (blk_grown HY8.out hg9 (hne9 HY8.out)); have HZ9 := Aside0.mk (blk_grown HX8.out.b2 hg9 (hne9 HX8.out.b2)); have HB9 := Aside0.mk hb9; have y0 := blk_cell (j := 0) (v := .int .i64 (v + 1)) HY9.out rfl; have y1 := blk_cell (j := 1) (v := .slice Au ts.length cu) HY9.out rfl; have y2 := blk_cell (j := 2) (v := .int .i64 (id + 1)) HY9.out rfl; have yf := blk_frozen HY9.out 1; have f0 := blk_frozen HZ9.out 0; have f1 := blk_frozen HZ9.out 1; have f2 := blk_frozen HZ9.out 2; have c0 := blk_cell (j := 0) (v := .int .i64 0) HZ9.out rfl; have c1 := blk_cell (j := 1) (v := .slice none 0 0) HZ9.out rfl; have c2 := blk_cell (j := 2) (v := .int .i64 0) HZ9.out rfl; have hq3 : w7.heap.size ≠ w.heap.size + 1 + 1 := (by omega); clear hr hb9 hg9 hat9 hne9 z0 z1 z2 z3 z4)
            refine bodyPost_ret (v := .tuple #[.agg #[.int .i64 (v + 1), .slice A9' (ts.length + 1) c9', .int .i64 (id + 1)], .int .i64 0]) (by simp [results, Tryd.results29, go_sem, c0, c1, c2, y0, y1, y2]) rfl ?_
            have r1 := Kd.R_set HR9.out HY9.out (by decide) 1 (.slice A9' (ts.length + 1) c9')
            have r2 := blk_far HZ9.out (p := ⟨w7.heap.size, 1, none⟩) (show w.heap.size + 1 + 1 ≠ w7.heap.size by omega) (.slice A9' (ts.length + 1) c9')
            have hlw : w.heap.size ≤ w.heap.size + 1 + 1 := by omega
            have hlw7 : w.heap.size ≤ w7.heap.size := by omega
            exact tellse_ok (by rw [HR.out, HNC.out, HID.out]) (R_set3 r1 r2) ((((HB9.out.setCell (p := ⟨w7.heap.size, 1, none⟩) hlw7 _).setCell (p := ⟨w.heap.size + 1 + 1, 0, none⟩) hlw _).setCell (p := ⟨w.heap.size + 1 + 1, 1, none⟩) hlw _).setCell (p := ⟨w.heap.size + 1 + 1, 2, none⟩) hlw _)
end Go.Proofs.YtjgomlcdmpcoaaaDoor.H
namespace Go.Proofs.YtjgomlcdmpcoaaaDoor.H
open Go.RowKit Go.Proofs.YtjgomlcdmpcoaaaDoorW.PrintWords Go.Proofs.YtjgomlcdmpcoaaaDoorW.PrintLast Go.Proofs.YtjgomlcdmpcoaaaDoorW.PrintMore
open Go.Proofs.YtjgomlcdmpcoaaaDoor.D Go.Proofs.YtjgomlcdmpcoaaaDoor
set_option linter.unusedVariables false
set_option linter.unusedSimpArgs false
section
variable {w0 W0 W W1 : World} {g n cap : Nat} {ts : List S70} {i : Nat} {oki : Nat → Prop} {t t' : S70} {cv iv : Value}
theorem UpdSt.putI {gi m c : Nat} (h : UpdSt w0 W0 W g n cap ts i oki t cv (.slice (some ⟨gi, 0, none⟩) m c)) (k : Nat) (hk : k < t.f3.length) (st : Int)
    (ht : (⟨t.f0, t.f1, t.f2, t.f3.set k ⟨t.f3[k].f0, t.f3[k].f1, t.f3[k].f2, t.f3[k].f3, st⟩, t.f4⟩ : S70) = t') :
    UpdSt w0 W0 (W.setCell ⟨gi, k * 5 + 4, none⟩ (.int .i64 st)) g n cap ts i oki t' cv (.slice (some ⟨gi, 0, none⟩) m c) := by
  subst ht
  have hm := (Kd.R_reads' h.lent.inds).1
  obtain ⟨cs, hcl, hM, hcc, _⟩ := Kd.R_elem h.lent.inds z98 (k : Int) (by omega) (by omega)
  rw [show t.f3.getD (k : Int).toNat z98 = t.f3[k] by simp [List.getD, hk]] at hM
  obtain ⟨v2, rfl, h2⟩ := k98_openM hM
  obtain ⟨hr, hg⟩ := Kd.R_seg h.lent.inds (k : Int) (by omega) (by omega) (seg := [.int .i64 st]) (j := 4) hcl hcc (Nat.le_of_ble_eq_true rfl) (x' := ⟨t.f3[k].f0, t.f3[k].f1, t.f3[k].f2, t.f3[k].f3, st⟩) (k98_mkM W w0.heap.size _ ⟨t.f3[k].f0, t.f3[k].f1, t.f3[k].f2, t.f3[k].f3, st⟩ h2) (fun k hk => hk)
  have ho : ∀ j, some gi = some j → oki j := fun j hj => h.lent.inds.1 j (by rw [← hj]; simp [Value.ownBlock])
  have hty := Kd.R_typed h.lent.inds gi (by simp [Value.ownBlock])
  obtain ⟨cells, hcells⟩ := hty
  have hbase := Kd.R_base h.lent.inds gi (by simp [Value.ownBlock])
  exact ⟨⟨h.lent.grown hg ho, h.lent.lt, Kd.R_set h.lent.cols hcells (by decide) _ _, hr, fun k hk => h.lent.fresh k (by simpa [World.setCell] using hk)⟩, h.tch.trans (Tch.of_set hcells (.inr (.inr rfl)) hbase _), h.base⟩
theorem UpdSt.putS {gi m c : Nat} (h : UpdSt w0 W0 W g n cap ts i oki t (.slice (some ⟨gi, 0, none⟩) m c) iv) (k : Nat) (hk : k < t.f2.length) (st : Int)
    (ht : (⟨t.f0, t.f1, t.f2.set k ⟨t.f2[k].f0, t.f2[k].f1, t.f2[k].f2, st, t.f2[k].f4, t.f2[k].f5⟩, t.f3, t.f4⟩ : S70) = t') :
    UpdSt w0 W0 (W.setCell ⟨gi, k * 9 + 3, none⟩ (.int .i64 st)) g n cap ts i oki t' (.slice (some ⟨gi, 0, none⟩) m c) iv := by
  subst ht
  have hm := (Kd.R_reads' h.lent.cols).1
  obtain ⟨cs, hcl, hM, hcc, _⟩ := Kd.R_elem h.lent.cols z75 (k : Int) (by omega) (by omega)
  rw [show t.f2.getD (k : Int).toNat z75 = t.f2[k] by simp [List.getD, hk]] at hM
  obtain rfl := k75_openM hM
  obtain ⟨hr, hg⟩ := Kd.R_seg h.lent.cols (k : Int) (by omega) (by omega) (seg := [.int .i64 st]) (j := 3) hcl hcc (Nat.le_of_ble_eq_true rfl) (x' := ⟨t.f2[k].f0, t.f2[k].f1, t.f2[k].f2, st, t.f2[k].f4, t.f2[k].f5⟩) (k75_mkM W w0.heap.size _ ⟨t.f2[k].f0, t.f2[k].f1, t.f2[k].f2, st, t.f2[k].f4, t.f2[k].f5⟩) (okp := fun _ => False) (fun k hk => hk.elim)
  have ho : ∀ j, some gi = some j → oki j := fun j hj => h.lent.cols.1 j (by rw [← hj]; simp [Value.ownBlock])
  obtain ⟨cells, hcells⟩ := Kd.R_typed h.lent.cols gi (by simp [Value.ownBlock])
  have hbase := Kd.R_base h.lent.cols gi (by simp [Value.ownBlock])
  exact ⟨⟨h.lent.grown hg ho, h.lent.lt, hr, Kd.R_set h.lent.inds hcells (by decide) _ _, fun k hk => h.lent.fresh k (by simpa [World.setCell] using hk)⟩, h.tch.trans (Tch.of_set hcells (.inr (.inl rfl)) hbase _), h.base⟩
theorem UpdSt.putN {gi m c : Nat} (h : UpdSt w0 W0 W g n cap ts i oki t (.slice (some ⟨gi, 0, none⟩) m c) iv) (k : Nat) (hk : k < t.f2.length) (st : Int)
    (ht : (⟨t.f0, t.f1, t.f2.set k ⟨t.f2[k].f0, t.f2[k].f1, t.f2[k].f2, t.f2[k].f3, st, t.f2[k].f5⟩, t.f3, t.f4⟩ : S70) = t') :
    UpdSt w0 W0 (W.setCell ⟨gi, k * 9 + 4, none⟩ (.int .i64 st)) g n cap ts i oki t' (.slice (some ⟨gi, 0, none⟩) m c) iv := by
  subst ht
  have hm := (Kd.R_reads' h.lent.cols).1
  obtain ⟨cs, hcl, hM, hcc, _⟩ := Kd.R_elem h.lent.cols z75 (k : Int) (by omega) (by omega)
  rw [show t.f2.getD (k : Int).toNat z75 = t.f2[k] by simp [List.getD, hk]] at hM
  obtain rfl := k75_openM hM
  obtain ⟨hr, hg⟩ := Kd.R_seg h.lent.cols (k : Int) (by omega) (by omega) (seg := [.int .i64 st]) (j := 4) hcl hcc (Nat.le_of_ble_eq_true rfl) (x' := ⟨t.f2[k].f0, t.f2[k].f1, t.f2[k].f2, t.f2[k].f3, st, t.f2[k].f5⟩) (k75_mkM W w0.heap.size _ ⟨t.f2[k].f0, t.f2[k].f1, t.f2[k].f2, t.f2[k].f3, st, t.f2[k].f5⟩) (okp := fun _ => False) (fun k hk => hk.elim)
  have ho : ∀ j, some gi = some j → oki j := fun j hj => h.lent.cols.1 j (by rw [← hj]; simp [Value.ownBlock])
  obtain ⟨cells, hcells⟩ := Kd.R_typed h.lent.cols gi (by simp [Value.ownBlock])
  have hbase := Kd.R_base h.lent.cols gi (by simp [Value.ownBlock])
  exact ⟨⟨h.lent.grown hg ho, h.lent.lt, hr, Kd.R_set h.lent.inds hcells (by decide) _ _, fun k hk => h.lent.fresh k (by simpa [World.setCell] using hk)⟩, h.tch.trans (Tch.of_set hcells (.inr (.inl rfl)) hbase _), h.base⟩
end
end Go.Proofs.YtjgomlcdmpcoaaaDoor.H
namespace Go.Proofs.YtjgomlcdmpcoaaaDoor.H
open Go.RowKit Go.Proofs.YtjgomlcdmpcoaaaDoorW.PrintWords Go.Proofs.YtjgomlcdmpcoaaaDoorW.PrintLast Go.Proofs.YtjgomlcdmpcoaaaDoorW.PrintMore
open Go.Proofs.YtjgomlcdmpcoaaaDoor.D Go.Proofs.YtjgomlcdmpcoaaaDoor
set_option linter.unusedVariables false
set_option linter.unusedSimpArgs false
def turnI (t : S70) (k : Nat) (st : Int) : S70 := if st = 0 then ⟨t.f0, t.f1, t.f2, t.f3.eraseIdx k, t.f4⟩ else ⟨t.f0, t.f1, t.f2, t.f3.set k ⟨(rd_T98 t.f3 k).f0, (rd_T98 t.f3 k).f1, (rd_T98 t.f3 k).f2, (rd_T98 t.f3 k).f3, st⟩, t.f4⟩
def turnC (t : S70) (k : Nat) (st : Int) : S70 := if st = 0 then ⟨t.f0, t.f1, t.f2.eraseIdx k, t.f3, t.f4⟩ else ⟨t.f0, t.f1, t.f2.set k ⟨(rd_T75 t.f2 k).f0, (rd_T75 t.f2 k).f1, (rd_T75 t.f2 k).f2, st, (rd_T75 t.f2 k).f4, (rd_T75 t.f2 k).f5⟩, t.f3, t.f4⟩
def turnN (t : S70) (k : Nat) (st : Int) : S70 := ⟨t.f0, t.f1, t.f2.set k ⟨(rd_T75 t.f2 k).f0, (rd_T75 t.f2 k).f1, (rd_T75 t.f2 k).f2, (rd_T75 t.f2 k).f3, st, (rd_T75 t.f2 k).f5⟩, t.f3, t.f4⟩
def turnP (t : S70) (kind elem by_ : Int) : S70 :=
  if kind = 6 ∨ kind = 7 then turnI t (idxL (xId elem) t.f3 0).toNat (elemI t kind elem + by_)
  else if kind = 8 ∨ kind = 9 then turnC t (idxL (cId elem) t.f2 0).toNat (elemI t kind elem + by_)
  else turnN t (idxL (cId elem) t.f2 0).toNat (elemI t kind elem + by_)
def TurnAt (kind elem by_ : Int) : Prop :=
  ∀ (w0 W : World) (g n cap : Nat) (ts : List S70) (i : Nat) (oki : Nat → Prop) (t : S70) (cv iv : Value), Below w0.heap.size w0 W → Lent W w0.heap.size g n cap ts i oki t cv iv → tableB t = true → 0 ≤ elemI t kind elem → elemI t kind elem ≤ 4 →
    Calls Tryd.prog 69 #[.pointer (some ⟨g, i * 5, none⟩), .int .i64 kind, .int .i64 elem, .int .i64 by_] W fun e W' => e = .returned (.tuple #[]) ∧ Kd.S k70 70 W' w0.heap.size (fun _ => True) (.slice (some ⟨g, 0, none⟩) n cap) (ts.set i (turnP t kind elem by_)) ∧ Tch w0.heap.size W W'
theorem rindex_calls (t : S70) (h3 : t.f3.length < 1000) (n : Int) (A2 : Option Addr) (c2 : Nat) (A3 : Option Addr) (c3 : Nat) (w : World) (l2 : t.f2.length ≤ c2) (g2 : k75.C w A2 t.f2.length t.f2) (l3 : t.f3.length ≤ c3) (g3 : k98.C w A3 t.f3.length t.f3) :
    Calls Tryd.prog 66 #[.agg #[.int .i64 t.f0, .string t.f1, .slice A2 t.f2.length c2, .slice A3 t.f3.length c3, .int .i64 t.f4], .int .i64 n] w fun e w' => e = .returned (.int .i64 (idxL (xId n) t.f3 0)) ∧ Below w.heap.size w w' := by
  have h := index_run t n (by omega) t.f3.length 1001 0 (by omega) (by omega)
  rw [List.drop_zero] at h
  exact (falseworkref18_index.calls 1001 t.f0 t.f1 A2 c2 t.f2 A3 c3 t.f3 t.f4 n _ w g2 l2 g3 l3 h).mono fun e w' h => ⟨h.1, by first | exact h.2 | exact h.2.below⟩
theorem rcolumn_calls (t : S70) (h3 : t.f2.length < 1000) (n : Int) (A2 : Option Addr) (c2 : Nat) (A3 : Option Addr) (c3 : Nat) (w : World) (l2 : t.f2.length ≤ c2) (g2 : k75.C w A2 t.f2.length t.f2) (l3 : t.f3.length ≤ c3) (g3 : k98.C w A3 t.f3.length t.f3) :
    Calls Tryd.prog 67 #[.agg #[.int .i64 t.f0, .string t.f1, .slice A2 t.f2.length c2, .slice A3 t.f3.length c3, .int .i64 t.f4], .int .i64 n] w fun e w' => e = .returned (.int .i64 (idxL (cId n) t.f2 0)) ∧ Below w.heap.size w w' := by
  have h := column_run t n (by omega) t.f2.length 1001 0 (by omega) (by omega)
  rw [List.drop_zero] at h
  exact (falseworkref18_column.calls 1001 t.f0 t.f1 A2 c2 t.f2 A3 c3 t.f3 t.f4 n _ w g2 l2 g3 l3 h).mono fun e w' h => ⟨h.1, by first | exact h.2 | exact h.2.below⟩
set_option maxRecDepth 100000 in
set_option maxHeartbeats 4000000 in
theorem turn6_up (elem : Int) : TurnAt 6 elem 1 := by
  intro w0 W g n cap ts i oki t cv iv hB hL ht he0 he4
  obtain ⟨m2, m3, m4, m5⟩ := tableB_lens ht
  obtain ⟨Ac, cc, hcv, lcc, hCc⟩ := Kd.R_reads hL.cols
  obtain ⟨Ai, ci, hiv, lci, hCi⟩ := Kd.R_reads hL.inds
  subst hcv hiv
  have hix := idxL_at (xId elem) t.f3
  have hel : elemI t 6 elem = if 0 ≤ idxL (xId elem) t.f3 0 then (rd_T98 t.f3 (idxL (xId elem) t.f3 0)).f4 else -1 := by unfold elemI; rw [if_pos (.inl rfl)]
  obtain ⟨ix, hixx⟩ : ∃ ix, idxL (xId elem) t.f3 0 = ix := ⟨_, rfl⟩
  have HT := Lib.hid (rindex_calls t (by omega) elem Ac cc Ai ci W lcc hCc lci hCi)
  have hR : turnP t 6 elem 1 = turnI t (idxL (xId elem) t.f3 0).toNat (elemI t 6 elem + 1) := by unfold turnP; rw [if_pos (.inl rfl)]
  rw [hR]
  rw [hixx] at hix hel HT ⊢
  rcases hix with rfl | ⟨k, hk, rfl, -⟩
  · rw [hel, if_neg (by omega)] at he0; omega
  rw [if_pos (by omega), rd98 _ _ hk] at hel
  obtain ⟨st, hst⟩ : ∃ st, elemI t 6 elem = st := ⟨_, rfl⟩
  rw [hst] at he0 he4 hel ⊢
  have HST := Lib.hid hel
  obtain ⟨gi, ci', hgi, -⟩ := Kd.R_form hL.inds (by omega)
  obtain rfl : Ai = some ⟨gi, 0, none⟩ := by injection hgi
  clear hgi
  have HU := Aside0.mk (⟨hL, Tch.refl _ _, hB.size⟩ : UpdSt w0 W W g n cap ts i oki t (.slice Ac t.f2.length cc) (.slice (some ⟨gi, 0, none⟩) t.f3.length ci))
  have a0 := hL.cell 0 rfl
  have a1 := hL.cell 1 rfl
  have a2 := hL.cell 2 rfl
  have a3 := hL.cell 3 rfl
  have a4 := hL.cell 4 rfl
  rw [Nat.add_zero] at a0
  have hkl : (k : Int) < (t.f3.length : Int) := by omega
  have hst1 : ¬ (st + 1 = 0) := by omega
  have hRR := Lib.hid (show turnI t (k : Int).toNat (st + 1) = ⟨t.f0, t.f1, t.f2, t.f3.set k ⟨t.f3[k].f0, t.f3[k].f1, t.f3[k].f2, t.f3[k].f3, st + 1⟩, t.f4⟩ by unfold turnI; rw [if_neg hst1, Int.toNat_natCast, rd98 _ _ hk])
  have hq : (st + 1 == 0) = false := by simpa using hst1
  obtain ⟨T, hT⟩ : ∃ T, turnI t (k : Int).toNat (st + 1) = T := ⟨_, rfl⟩
  rw [hT] at hRR
  rw [hT]
  clear hB hL ht hR hixx hst hel hCc hCi hst1 hT
  go_enter Tryd.func69, Tryd.ntmps69
  go_wp2_with fail
  refine HT.out.mono ?_
  rintro e w1 ⟨rfl, hb1⟩
  have HU1 := Aside0.mk (HU.out.step hb1)
  have b3 := HU1.out.lent.cell 3 rfl
  obtain ⟨cz, hcl, hM, hcc, hfr⟩ := Kd.R_elem HU1.out.lent.inds z98 (k : Int) (by omega) (by omega)
  rw [show t.f3.getD (k : Int).toNat z98 = t.f3[k] by simp [List.getD, hk]] at hM
  obtain ⟨v2, rfl, -⟩ := k98_openM hM
  have e4 : w1.cell? ⟨gi, k * 5 + 4, none⟩ = some (.int .i64 t.f3[k].f4) := hcc 4 _ rfl
  have f4 : w1.frozen? ⟨gi, k * 5 + 4, none⟩ = false := hfr 4
  rw [← HST.out] at e4
  have HF := Aside0.mk (HU1.out.putI k hk (st + 1) rfl)
  have hne : g ≠ gi := fun e => HU1.out.lent.oki_ne gi (HU1.out.lent.inds.1 gi (by simp [Value.ownBlock])) e.symm
  have hne' : gi ≠ g := Ne.symm hne
  have hk0 : (0 : Int) ≤ (k : Int) := by omega
  clear hcl hM hcc hfr hb1 a0 a1 a2 a3 a4 HT HST
  go_wp2_with fail
  go_region
  all_goals
    go_wp2
    go_end0
    rw [hRR.out]
    exact ⟨rfl, (HF.out.step (below_drew (Below.refl _ _))).done⟩
end Go.Proofs.YtjgomlcdmpcoaaaDoor.H
namespace Go.Proofs.YtjgomlcdmpcoaaaDoor.H
open Go.RowKit Go.Proofs.YtjgomlcdmpcoaaaDoorW.PrintWords Go.Proofs.YtjgomlcdmpcoaaaDoorW.PrintLast Go.Proofs.YtjgomlcdmpcoaaaDoorW.PrintMore
open Go.Proofs.YtjgomlcdmpcoaaaDoor.D Go.Proofs.YtjgomlcdmpcoaaaDoor
set_option linter.unusedVariables false
set_option linter.unusedSimpArgs false
def stepP (v : Int) (ts : List S70) (nx : Int) (kind table elem : Int) (up : Bool) : Told :=
  if schB v ts nx = false then noTold 3
  else if 1099511627775 ≤ v then noTold 4
  else if stateI v ts nx kind table elem < 0 then noTold 5
  else if (up = true ∧ stateI v ts nx kind table elem = 4) ∨ (up = false ∧ stateI v ts nx kind table elem = 0) then noTold 12
  else if 8 ≤ kind ∧ idxL (cId elem) (rd_T70 ts (idxL (tId table) ts 0)).f2 0 = 0 then noTold 8
  else if up = false ∧ stateI v ts nx kind table elem = 1 ∧ (kind = 8 ∨ kind = 9) ∧ usedB elem (rd_T70 ts (idxL (tId table) ts 0)).f3 = true then noTold 18
  else ⟨v + 1, ts.set (idxL (tId table) ts 0).toNat (turnP (rd_T70 ts (idxL (tId table) ts 0)) kind elem (if up = true then 1 else -1)), nx, 0, 0, 0⟩
theorem stepP_eq (v : Int) (ts : List S70) (nx : Int) (kind table elem : Int) (up : Bool) : stepP v ts nx kind table elem up =
  (if schB v ts nx = false then noTold 3
  else if 1099511627775 ≤ v then noTold 4
  else if stateI v ts nx kind table elem < 0 then noTold 5
  else if (up = true ∧ stateI v ts nx kind table elem = 4) ∨ (up = false ∧ stateI v ts nx kind table elem = 0) then noTold 12
  else if 8 ≤ kind ∧ idxL (cId elem) (rd_T70 ts (idxL (tId table) ts 0)).f2 0 = 0 then noTold 8
  else if up = false ∧ stateI v ts nx kind table elem = 1 ∧ (kind = 8 ∨ kind = 9) ∧ usedB elem (rd_T70 ts (idxL (tId table) ts 0)).f3 = true then noTold 18
  else ⟨v + 1, ts.set (idxL (tId table) ts 0).toNat (turnP (rd_T70 ts (idxL (tId table) ts 0)) kind elem (if up = true then 1 else -1)), nx, 0, 0, 0⟩) := rfl
structure Bxt (w W : World) (bx : Array Value) : Prop where
  below : Below w.heap.size w W
  b0 : W.heap[w.heap.size]? = some (.cells bx 28 (0, 0))
  b2 : W.heap[w.heap.size + 1]? = some (.cells #[.int .i64 0, .slice none 0 0, .int .i64 0] 28 (0, 0))
section
variable {w W W1 : World} {bx : Array Value}
theorem Bxt.new (w : World) (bx : Array Value) : Bxt w ((w.alloc (.cells bx 28)).alloc (.cells #[.int .i64 0, .slice none 0 0, .int .i64 0] 28)) bx := by
  have h1 := heap_alloc_new w (.cells bx 28)
  have h2 := heap_alloc_new (w.alloc (.cells bx 28)) (.cells #[.int .i64 0, .slice none 0 0, .int .i64 0] 28)
  rw [show (w.alloc (.cells bx 28)).heap.size = w.heap.size + 1 by simp] at h2
  exact ⟨below_alloc (below_alloc (Below.refl _ _) _) _, blk_alloc h1 _, h2⟩
theorem Bxt.step (h : Bxt w W bx) (hb : Below W.heap.size W W1) : Bxt w W1 bx := ⟨below_then h.below h.below.size hb, blk_below h.b0 hb, blk_below h.b2 hb⟩
theorem Bxt.tch (h : Bxt w W bx) (hb : Tch w.heap.size W W1) : Bxt w W1 bx := ⟨h.below.trans hb.below, hb.box h.b0, hb.box h.b2⟩
theorem Bxt.out (h : Bxt w W bx) (a b c : Value) : Below w.heap.size w (((W.setCell ⟨w.heap.size + 1, 0, none⟩ a).setCell ⟨w.heap.size + 1, 1, none⟩ b).setCell ⟨w.heap.size + 1, 2, none⟩ c) :=
  have hl : w.heap.size ≤ w.heap.size + 1 := by omega
  ((h.below.setCell hl _).setCell hl _).setCell hl _
theorem Bxt.far (h : Bxt w W bx) {g j : Nat} (hg : w.heap.size + 1 < g) (u : Value) : Bxt w (W.setCell ⟨g, j, none⟩ u) bx :=
  ⟨h.below.setCell (p := ⟨g, j, none⟩) (show w.heap.size ≤ g by omega) _, blk_far h.b0 (p := ⟨g, j, none⟩) (show w.heap.size ≠ g by omega) _, blk_far h.b2 (p := ⟨g, j, none⟩) (show w.heap.size + 1 ≠ g by omega) _⟩
end
theorem rbyid_calls (v : Int) (ts : List S70) (nx : Int) (n : Int) (hn : ts.length < 1000) (A : Option Addr) (c : Nat) (w : World) (hc : ts.length ≤ c) (g2 : k70.C w A ts.length ts) :
    Calls Tryd.prog 65 #[.agg #[.int .i64 v, .slice A ts.length c, .int .i64 nx], .int .i64 n] w fun e w' => e = .returned (.int .i64 (idxL (tId n) ts 0)) ∧ Below w.heap.size w w' := by
  have h := byId_run n v ts nx (by omega) ts.length 1001 0 (by omega) (by omega)
  rw [List.drop_zero] at h
  exact (falseworkref18_ByID.calls 1001 v A c ts nx n _ w g2 hc h).mono fun e w' h => ⟨h.1, by first | exact h.2 | exact h.2.below⟩
theorem elem6_le {t : S70} (ht : tableB t = true) (elem : Int) : elemI t 6 elem ≤ 4 := by
  unfold elemI
  rw [if_pos (.inl rfl)]
  rcases idxL_at (xId elem) t.f3 with h | ⟨k, hk, h, -⟩
  · rw [h, if_neg (by omega)]; omega
  · rw [h, if_pos (by omega), rd98 _ _ hk]
    unfold tableB at ht
    simp only [Bool.and_eq_true, decide_eq_true_eq] at ht
    have := tindsB_all _ _ _ ht.2.2.2.2.2.2.2.1 _ (List.getElem_mem hk)
    unfold indexB at this
    simp only [Bool.and_eq_true, decide_eq_true_eq] at this
    have h2 := this.2.2.2.1
    unfold stateB at h2
    simp only [Bool.and_eq_true, decide_eq_true_eq] at h2
    exact h2.2
def HeldY (w W0 W : World) (m : Nat) (a b c d : Value) : Prop := Below W0.heap.size W0 W ∧ W.cell? ⟨w.heap.size, 0, none⟩ = some a ∧ W.cell? ⟨w.heap.size, 1, none⟩ = some b ∧ W.cell? ⟨w.heap.size, 2, none⟩ = some c ∧ W.cell? ⟨m, 1, none⟩ = some d
theorem HeldY.new {w W0 : World} {m : Nat} {a b c d : Value} (h0 : W0.cell? ⟨w.heap.size, 0, none⟩ = some a) (h1 : W0.cell? ⟨w.heap.size, 1, none⟩ = some b) (h2 : W0.cell? ⟨w.heap.size, 2, none⟩ = some c) (h3 : W0.cell? ⟨m, 1, none⟩ = some d) : HeldY w W0 W0.drew m a b c d :=
  ⟨below_drew (Below.refl _ _), h0, h1, h2, h3⟩
theorem HeldY.step {w W0 W W' : World} {m : Nat} {a b c d : Value} (h : HeldY w W0 W m a b c d) (hb : Below W.heap.size W W') : HeldY w W0 W' m a b c d := by
  obtain ⟨h1, h2, h3, h4, h5⟩ := h
  exact ⟨below_then h1 h1.size hb, pw_cell_below hb h2, pw_cell_below hb h3, pw_cell_below hb h4, pw_cell_below hb h5⟩
set_option maxRecDepth 100000 in
set_option maxHeartbeats 8000000 in
theorem step6_calls (v : Int) (ts : List S70) (nx : Int) (table elem : Int) (hn : ts.length < 1000) (hw : ∀ t ∈ ts, ∀ c ∈ t.f2, ValWf c.f5)
    (A : Option Addr) (c : Nat) (w : World) (hc : ts.length ≤ c) (g2 : k70.C w A ts.length ts) :
    Calls Tryd.prog 32 #[.agg #[.int .i64 v, .slice A ts.length c, .int .i64 nx], .int .i64 6, .int .i64 table, .int .i64 elem, .bool true] w (TellsE w (stepP v ts nx 6 table elem true)) := by
  have HC := Aside0.mk g2
  obtain ⟨bx, hbx⟩ : ∃ b : Array Value, b = #[.int .i64 v, .slice A ts.length c, .int .i64 nx] := ⟨_, rfl⟩
  have HX := Aside0.mk (Bxt.new w bx)
  have HM := Lib.hid (fun W (hb : Below w.heap.size w W) => rmay_calls v ts nx hw A c W hc (Kd.C_below g2 hb))
  have HQ := Lib.hid (fun W (hb : Below w.heap.size w W) => rstate_calls v ts nx hn hw 6 table elem A c W hc (Kd.C_below g2 hb))
  have HI := Lib.hid (stepP_eq v ts nx 6 table elem true)
  obtain ⟨R, hR⟩ : ∃ R, stepP v ts nx 6 table elem true = R := ⟨_, rfl⟩
  rw [hR]
  rw [hR] at HI
  rw [hbx] at HX
  have HIX := idxL_at (tId table) ts
  have HSTT := Lib.hid (show stateI v ts nx 6 table elem = _ by unfold stateI; exact rfl)
  obtain ⟨st, hst⟩ : ∃ st, stateI v ts nx 6 table elem = st := ⟨_, rfl⟩
  obtain ⟨ix, hix⟩ : ∃ ix, idxL (tId table) ts 0 = ix := ⟨_, rfl⟩
  rw [hst] at HQ HI HSTT
  rw [hix] at HIX HI HSTT
  have HP := Lib.hid hix
  clear g2 hR hw hst hix
  cases hsch : schB v ts nx with
  | false =>
    have HR := Lib.hid (show R = noTold 3 by rw [HI.out, if_pos hsch])
    rw [hsch] at HM
    clear hsch HI HIX
    go_enter Tryd.func32, Tryd.ntmps32
    go_wp2_with fail
    refine (HM.out _ HX.out.below).mono ?_
    rintro e w1 ⟨rfl, hb1⟩
    have HX1 := Aside0.mk (HX.out.step hb1)
    have f0 := blk_frozen HX1.out.b2 0
    have f1 := blk_frozen HX1.out.b2 1
    have f2 := blk_frozen HX1.out.b2 2
    have c0 := blk_cell (j := 0) (v := .int .i64 0) HX1.out.b2 rfl
    have c1 := blk_cell (j := 1) (v := .slice none 0 0) HX1.out.b2 rfl
    have c2 := blk_cell (j := 2) (v := .int .i64 0) HX1.out.b2 rfl
    clear hb1
    go_wp2
    refine bodyPost_ret (v := .tuple #[.agg #[.int .i64 0, .slice none 0 0, .int .i64 0], .int .i64 3]) (by simp [results, Tryd.results32, go_sem, c0, c1, c2]) rfl (tellse_no HR.out (HX1.out.out _ _ _))
  | true =>
    rw [hsch] at HM
    have HSTT := Lib.hid (HSTT.out.trans (show _ = (if 0 ≤ ix then elemI (rd_T70 ts ix) 6 elem else -1) by rw [if_pos hsch]))
    have HI2 := Lib.hid (HI.out.trans (if_neg (by rw [hsch]; simp)))
    have HB := Lib.hid hsch
    clear hsch HI
    go_enter Tryd.func32, Tryd.ntmps32
    go_wp2_with fail
    refine (HM.out _ HX.out.below).mono ?_
    rintro e w1 ⟨rfl, hb1⟩
    have HX1 := Aside0.mk (HX.out.step hb1)
    have x0 := blk_cell (j := 0) (v := .int .i64 v) HX1.out.b0 rfl
    clear hb1 HX HM
    by_cases hv : 1099511627775 ≤ v
    · have hd : decide (1099511627775 ≤ v) = true := decide_eq_true hv
      have HR := Lib.hid (show R = noTold 4 by rw [HI2.out, if_pos hv])
      have f0 := blk_frozen HX1.out.b2 0
      have f1 := blk_frozen HX1.out.b2 1
      have f2 := blk_frozen HX1.out.b2 2
      have c0 := blk_cell (j := 0) (v := .int .i64 0) HX1.out.b2 rfl
      have c1 := blk_cell (j := 1) (v := .slice none 0 0) HX1.out.b2 rfl
      have c2 := blk_cell (j := 2) (v := .int .i64 0) HX1.out.b2 rfl
      clear hv HI2 HIX
      go_wp2
      refine bodyPost_ret (v := .tuple #[.agg #[.int .i64 0, .slice none 0 0, .int .i64 0], .int .i64 4]) (by simp [results, Tryd.results32, go_sem, c0, c1, c2]) rfl (tellse_no HR.out (HX1.out.out _ _ _))
    have hd : decide (1099511627775 ≤ v) = false := decide_eq_false hv
    have HI3 := Lib.hid (HI2.out.trans (if_neg hv))
    have x1 := blk_cell (j := 1) (v := .slice A ts.length c) HX1.out.b0 rfl
    have x2 := blk_cell (j := 2) (v := .int .i64 nx) HX1.out.b0 rfl
    have HV := Lib.hid hv
    clear HI2 hv
    go_wp2_with fail
    refine (HQ.out _ HX1.out.below).mono ?_
    rintro e w2 ⟨rfl, hb2⟩
    have HX2 := Aside0.mk (HX1.out.step hb2)
    clear hb2 x0 x1 x2 hd HQ
    by_cases hs0 : st < 0
    · have hd : decide (st < 0) = true := decide_eq_true hs0
      have HR := Lib.hid (show R = noTold 5 by rw [HI3.out, if_pos hs0])
      clear HX1
      have HX1 := HX2
      have f0 := blk_frozen HX1.out.b2 0
      have f1 := blk_frozen HX1.out.b2 1
      have f2 := blk_frozen HX1.out.b2 2
      have c0 := blk_cell (j := 0) (v := .int .i64 0) HX1.out.b2 rfl
      have c1 := blk_cell (j := 1) (v := .slice none 0 0) HX1.out.b2 rfl
      have c2 := blk_cell (j := 2) (v := .int .i64 0) HX1.out.b2 rfl
      clear hs0 HI3 HIX
      go_wp2
      refine bodyPost_ret (v := .tuple #[.agg #[.int .i64 0, .slice none 0 0, .int .i64 0], .int .i64 5]) (by simp [results, Tryd.results32, go_sem, c0, c1, c2]) rfl (tellse_no HR.out (HX1.out.out _ _ _))
    have hd : decide (st < 0) = false := decide_eq_false hs0
    have HI4 := Lib.hid (HI3.out.trans (if_neg hs0))
    have hs0' : 0 ≤ st := by omega
    clear HI3
    by_cases hs4 : st = 4
    · have hd4 : (st == 4) = true := by simpa using hs4
      have HR := Lib.hid (show R = noTold 12 by rw [HI4.out, if_pos (.inl ⟨by simp, hs4⟩)])
      clear HX1
      have HX1 := HX2
      have f0 := blk_frozen HX1.out.b2 0
      have f1 := blk_frozen HX1.out.b2 1
      have f2 := blk_frozen HX1.out.b2 2
      have c0 := blk_cell (j := 0) (v := .int .i64 0) HX1.out.b2 rfl
      have c1 := blk_cell (j := 1) (v := .slice none 0 0) HX1.out.b2 rfl
      have c2 := blk_cell (j := 2) (v := .int .i64 0) HX1.out.b2 rfl
      clear hs0 hs4 HI4 HIX
      go_wp2
      refine bodyPost_ret (v := .tuple #[.agg #[.int .i64 0, .slice none 0 0, .int .i64 0], .int .i64 12]) (by simp [results, Tryd.results32, go_sem, c0, c1, c2]) rfl (tellse_no HR.out (HX1.out.out _ _ _))
    have hd4 : (st == 4) = false := by simpa using hs4
    have HI5 := Lib.hid (HI4.out.trans (if_neg (by simp [hs4])))
    have HR := Lib.hid ((HI5.out.trans (if_neg (by simp))).trans (if_neg (by simp)))
    obtain ⟨k, hk, rfl⟩ : ∃ k : Nat, k < ts.length ∧ ix = (k : Int) := by
      rcases HIX with rfl | ⟨k, hk, h, -⟩
      · have := HSTT.out; rw [if_neg (by omega)] at this; omega
      · exact ⟨k, hk, h⟩
    have hel : elemI ts[k] 6 elem = st := by have := HSTT.out; rw [if_pos (by omega), rd70 _ _ hk] at this; exact this.symm
    have HEL := Lib.hid hel
    have x0 := blk_cell (j := 0) (v := .int .i64 v) HX2.out.b0 rfl
    have x1 := blk_cell (j := 1) (v := .slice A ts.length c) HX2.out.b0 rfl
    have x2 := blk_cell (j := 2) (v := .int .i64 nx) HX2.out.b0 rfl
    have hk0 : (0 : Int) ≤ (k : Int) := by omega
    have hkl : (k : Int) < (ts.length : Int) := by omega
    have hv1 : v < 1099511627775 := by have := HV.out; omega
    have hv0 : 0 ≤ v := by have := HB.out; unfold schB at this; simp only [Bool.and_eq_true, decide_eq_true_eq] at this; exact this.1
    clear HI4 HI5 HIX HSTT hel hs0 hs4 HX1
    go_wp2_with fail
    refine (copy_calls v ts nx (schB_small HB.out) A c w2 hc (Kd.C_below HC.out HX2.out.below)).mono ?_
    rintro e w3 ⟨u, rfl, hS, hb3⟩
    have hS' := Kd.S_lower hS HX2.out.below.size
    obtain ⟨g, cap, rfl, -⟩ := Kd.S_form hS' (by omega)
    obtain ⟨Y, hY⟩ : ∃ Y : Obj, Y = .cells #[.int .i64 v, .slice (some ⟨g, 0, none⟩) ts.length cap, .int .i64 nx] 28 := ⟨_, rfl⟩
    have hby := below_alloc (Below.refl _ w3) Y
    have hX3 := HX2.out.step hb3
    have HX3 := Aside0.mk (hX3.step hby)
    have HS3 := Aside0.mk (Kd.S_alloc hS' Y)
    have HY := Aside0.mk (heap_alloc_new w3 Y)
    have hq3 : w.heap.size + 1 < w3.heap.size := lt_of_block hX3.b2
    clear hS hS' hb3 x0 x1 x2 HX2 hby hX3
    rw [hY] at HX3 HS3 HY
    go_wp2_with fail
    rw [← hY]
    rw [← hY] at HX3 HS3 HY
    obtain ⟨m, hm⟩ : ∃ m, m = w3.heap.size := ⟨_, rfl⟩
    rw [← hm] at HY hq3 ⊢
    have HM3 := Lib.hid hm
    generalize w3.alloc Y = w4 at HX3 HS3 HY ⊢
    clear hm
    have HYY := HY
    rw [hY] at HYY
    have HYB := Aside0.mk (show w4.heap[m]? = some (.cells #[.int .i64 v, .slice (some ⟨g, 0, none⟩) ts.length cap, .int .i64 nx] 28 (0, 0)) from HYY.out)
    clear HYY HY hY
    have HP3 := Lib.hid (fun W (hb : Below w.heap.size w W) => rbyid_calls v ts nx table hn A c W hc (Kd.C_below HC.out hb))
    rw [HP.out] at HP3
    have x0 := blk_cell (j := 0) (v := .int .i64 v) HX3.out.b0 rfl
    have x1 := blk_cell (j := 1) (v := .slice A ts.length c) HX3.out.b0 rfl
    have x2 := blk_cell (j := 2) (v := .int .i64 nx) HX3.out.b0 rfl
    have y1 := blk_cell (j := 1) (v := .slice (some ⟨g, 0, none⟩) ts.length cap) HYB.out rfl
    have HH := Aside0.mk (HeldY.new (w := w) (W0 := w4) x0 x1 x2 y1)
    clear x0 x1 x2 y1
    go_region_held3 (fun W => Below w4.heap.size w4 W ∧ W.cell? ⟨w.heap.size, 0, none⟩ = some (.int .i64 v) ∧ W.cell? ⟨w.heap.size, 1, none⟩ = some (.slice A ts.length c) ∧ W.cell? ⟨w.heap.size, 2, none⟩ = some (.int .i64 nx) ∧ W.cell? ⟨m, 1, none⟩ = some (.slice (some ⟨g, 0, none⟩) ts.length cap))
      (first | exact HH.out | exact HeldY.step (m := m) ⟨by assumption, by assumption, by assumption, by assumption, by assumption⟩ hbq)
      (first | (go_at_call 65; go_split_ands; refine (HP3.out _ (below_then HX3.out.below HX3.out.below.size (by assumption))).mono ?_; rintro e w5 ⟨rfl, hbq⟩))
    rename_i hHeld
    obtain ⟨hb5, -, -, -, -⟩ := hHeld
    have HX5 := Aside0.mk (HX3.out.step hb5)
    have HY5 := Aside0.mk (blk_below HYB.out hb5)
    obtain ⟨oki, cv, iv, hL⟩ := lend (Kd.S_below HS3.out hb5) hk
    have HTB := Lib.hid (schB_tab HB.out _ (List.getElem_mem hk))
    obtain ⟨t, ht⟩ : ∃ t, ts[k] = t := ⟨_, rfl⟩
    have HR6 := HR
    rw [rd70 _ _ hk] at HR6
    rw [ht] at hL HTB HEL HR6
    have HUU := Lib.hid (turn6_up elem w _ g ts.length cap ts k oki t cv iv HX5.out.below hL HTB.out (by rw [HEL.out]; exact hs0') (elem6_le HTB.out elem))
    clear hb5 HS3 HX3 HYB HH HP3 hL ht HR
    go_wp2_with fail
    refine HUU.out.mono ?_
    rintro e w6 ⟨rfl, hS6, hT6⟩
    have HX6 := Aside0.mk (HX5.out.tch hT6)
    have hY6 := hT6.box HY5.out
    have y0 := blk_cell (j := 0) (v := .int .i64 v) hY6 rfl
    have yf := blk_frozen hY6 0
    have hX7 := HX6.out.far (j := 0) hq3 (.int .i64 (v + 1))
    have hY7 := blk_put hY6 0 (.int .i64 (v + 1)) rfl
    have hS7 := Kd.S_set hS6 hY6 (by decide) 0 (.int .i64 (v + 1))
    have y1 := blk_cell (j := 1) (v := .slice (some ⟨g, 0, none⟩) ts.length cap) hY6 rfl
    have y2 := blk_cell (j := 2) (v := .int .i64 nx) hY6 rfl
    have f0 := blk_frozen HX6.out.b2 0
    have f1 := blk_frozen HX6.out.b2 1
    have f2 := blk_frozen HX6.out.b2 2
    have c0 := blk_cell (j := 0) (v := .int .i64 0) HX6.out.b2 rfl
    have c1 := blk_cell (j := 1) (v := .slice none 0 0) HX6.out.b2 rfl
    have c2 := blk_cell (j := 2) (v := .int .i64 0) HX6.out.b2 rfl
    have n1 : m ≠ w.heap.size + 1 := by omega
    have n2 : w.heap.size + 1 ≠ m := by omega
    have hlen : (ts.set k (turnP t 6 elem 1)).length = ts.length := List.length_set
    rw [← hlen] at hS7
    have HFIN := Aside0.mk (And.intro (S_set3 (a := .int .i64 (v + 1)) (b := .slice (some ⟨g, 0, none⟩) ts.length cap) (c := .int .i64 nx) hS7 hX7.b2) (hX7.out (.int .i64 (v + 1)) (.slice (some ⟨g, 0, none⟩) ts.length cap) (.int .i64 nx)))
    rw [hlen] at HFIN
    clear hS6 hT6 HUU hY6 HX5 HY5 hX7 hY7 hS7 hlen
    go_wp2
    refine bodyPost_ret (v := .tuple #[.agg #[.int .i64 (v + 1), .slice (some ⟨g, 0, none⟩) ts.length cap, .int .i64 nx], .int .i64 0]) (by simp [results, Tryd.results32, go_sem, c0, c1, c2, y0, y1, y2]) rfl ?_
    have hfin := tellse_ok (w := w) (R := R) (v := v + 1) (nx := nx) (ts := ts.set k (turnP t 6 elem 1)) (by rw [HR6.out]; simp) (Kd.S_R HFIN.out.1) HFIN.out.2
    exact hfin
end Go.Proofs.YtjgomlcdmpcoaaaDoor.H
namespace Go.Proofs.YtjgomlcdmpcoaaaDoor.H
open Go.RowKit Go.Proofs.YtjgomlcdmpcoaaaDoorW.PrintWords Go.Proofs.YtjgomlcdmpcoaaaDoorW.PrintLast Go.Proofs.YtjgomlcdmpcoaaaDoorW.PrintMore
open Go.Proofs.YtjgomlcdmpcoaaaDoor.D Go.Proofs.YtjgomlcdmpcoaaaDoor
set_option linter.unusedVariables false
set_option linter.unusedSimpArgs false
section
variable {α : Type} {d : Kd α} {e : TypeId} {W : World} {base n cap g : Nat} {ok : Nat → Prop} {xs : List α}
theorem rowsM (h : d.R e W base ok (.slice (some ⟨g, 0, none⟩) n cap) xs) : ReadsRow (d.M W base (fun k => ok k ∧ k ≠ g)) d.sz W (some ⟨g, 0, none⟩) n xs := by
  obtain ⟨hn, hnc, hC⟩ := Kd.R_reads' h
  subst hn
  refine ⟨hC.1, hC.2.1, fun _ => ⟨⟨g, 0, none⟩, rfl, fun j p hj => ?_⟩⟩
  have hjl : j < xs.length := (List.getElem?_eq_some_iff.1 hj).1
  obtain ⟨c, h1, h2, h3, -⟩ := Kd.R_elem h p (j : Int) (by omega) (by omega)
  rw [show xs.getD (j : Int).toNat p = p by simp [List.getD, hj]] at h2
  exact ⟨c, h1, h2, fun i u hu => by rw [add_plain]; exact h3 i u hu⟩
theorem rows_take {R : α → List Value → Prop} {size m : Nat} {A : Option Addr} (h : ReadsRow R size W A n xs) (hm : m ≤ n) : ReadsRow R size W A m (xs.take m) := by
  refine ⟨by rw [List.length_take, h.1]; omega, by have := h.2.1; omega, fun hp => ?_⟩
  obtain ⟨ad, e, hc⟩ := h.2.2 (by omega)
  refine ⟨ad, e, fun j p hj => hc j p ?_⟩
  rw [List.getElem?_take] at hj
  split at hj
  · exact hj
  · cases hj
theorem rows_drop {R : α → List Value → Prop} {size m c : Nat} {A : Option Addr} (h : ReadsRow R size W A n xs) (hm : m ≤ n) (hc : n ≤ c) : ReadsRow R size W (if c = m then A else A.map (·.add (m * size))) (n - m) (xs.drop m) := by
  refine ⟨by rw [List.length_drop, h.1], by have := h.2.1; omega, fun hp => ?_⟩
  obtain ⟨ad, rfl, hcell⟩ := h.2.2 (by omega)
  rw [if_neg (by omega)]
  refine ⟨ad.add (m * size), rfl, fun j p hj => ?_⟩
  rw [List.getElem?_drop] at hj
  obtain ⟨cs, h1, h2, h3⟩ := hcell (m + j) p hj
  refine ⟨cs, h1, h2, fun i u hu => ?_⟩
  rw [Go.Proofs.YtjgomlcdmpcoaaaDoorW.PrintWords.add_add, show m * size + (j * size + i) = (m + j) * size + i by rw [Nat.add_mul]; omega]
  exact h3 i u hu
end
theorem erase_set {α : Type} (l : List α) (k : Nat) (x : α) : (l.set k x).take k ++ (l.set k x).drop (k + 1) = l.eraseIdx k := by
  rw [List.eraseIdx_eq_take_drop_succ, List.take_set_of_le (Nat.le_refl k), List.drop_set_of_lt (Nat.lt_succ_self k)]
set_option maxRecDepth 100000 in
set_option maxHeartbeats 4000000 in
theorem turnX_at (kind : Int) (hkd : kind = 6 ∨ kind = 7) (elem by_ : Int) (hby : by_ = 1 ∨ by_ = -1) : TurnAt kind elem by_ := by
  intro w0 W g n cap ts i oki t cv iv hB hL ht he0 he4
  obtain ⟨m2, m3, m4, m5⟩ := tableB_lens ht
  obtain ⟨Ac, cc, hcv, lcc, hCc⟩ := Kd.R_reads hL.cols
  obtain ⟨Ai, ci, hiv, lci, hCi⟩ := Kd.R_reads hL.inds
  subst hcv hiv
  have hix := idxL_at (xId elem) t.f3
  have hel : elemI t kind elem = if 0 ≤ idxL (xId elem) t.f3 0 then (rd_T98 t.f3 (idxL (xId elem) t.f3 0)).f4 else -1 := by unfold elemI; rw [if_pos hkd]
  obtain ⟨ix, hixx⟩ : ∃ ix, idxL (xId elem) t.f3 0 = ix := ⟨_, rfl⟩
  have HT := Lib.hid (rindex_calls t (by omega) elem Ac cc Ai ci W lcc hCc lci hCi)
  have hR : turnP t kind elem by_ = turnI t (idxL (xId elem) t.f3 0).toNat (elemI t kind elem + by_) := by unfold turnP; rw [if_pos hkd]
  rw [hR]
  rw [hixx] at hix hel HT ⊢
  rcases hix with rfl | ⟨k, hk, rfl, -⟩
  · rw [hel, if_neg (by omega)] at he0; omega
  rw [if_pos (by omega), rd98 _ _ hk] at hel
  obtain ⟨st, hst⟩ : ∃ st, elemI t kind elem = st := ⟨_, rfl⟩
  rw [hst] at he0 he4 hel ⊢
  have HST := Lib.hid hel
  obtain ⟨gi, ci', hgi, -⟩ := Kd.R_form hL.inds (by omega)
  obtain rfl : Ai = some ⟨gi, 0, none⟩ := by injection hgi
  clear hgi
  have HU := Aside0.mk (⟨hL, Tch.refl _ _, hB.size⟩ : UpdSt w0 W W g n cap ts i oki t (.slice Ac t.f2.length cc) (.slice (some ⟨gi, 0, none⟩) t.f3.length ci))
  have HB := Aside0.mk hB
  have a0 := hL.cell 0 rfl
  have a1 := hL.cell 1 rfl
  have a2 := hL.cell 2 rfl
  have a3 := hL.cell 3 rfl
  have a4 := hL.cell 4 rfl
  rw [Nat.add_zero] at a0
  have hkl : (k : Int) < (t.f3.length : Int) := by omega
  rw [Int.toNat_natCast]
  clear hB hL ht hR hixx hst hel hCc hCi m5
  have hcase : (by_ = -1 ∧ st = 1) ∨ (st + by_ ≠ 0 ∧ -1 ≤ st + by_ ∧ st + by_ ≤ 5) := by omega
  rcases hcase with ⟨rfl, rfl⟩ | ⟨hne0, hb0, hb5⟩
  · have hRR := Lib.hid (show turnI t k (1 + -1) = ⟨t.f0, t.f1, t.f2, t.f3.eraseIdx k, t.f4⟩ by unfold turnI; rw [if_pos (by decide)])
    obtain ⟨T, hT⟩ : ∃ T, turnI t k (1 + -1) = T := ⟨_, rfl⟩
    rw [hT] at hRR
    rw [hT]
    clear hT
    rcases hkd with rfl | rfl
    all_goals
      go_enter Tryd.func69, Tryd.ntmps69
      go_wp2_with fail
      refine HT.out.mono ?_
      rintro e w1 ⟨rfl, hb1⟩
      have HU1 := Aside0.mk (HU.out.step hb1)
      have b3 := HU1.out.lent.cell 3 rfl
      obtain ⟨cz, hcl, hM, hcc, hfr⟩ := Kd.R_elem HU1.out.lent.inds z98 (k : Int) (by omega) (by omega)
      rw [show t.f3.getD (k : Int).toNat z98 = t.f3[k] by simp [List.getD, hk]] at hM
      obtain ⟨v2, rfl, -⟩ := k98_openM hM
      have e4 : w1.cell? ⟨gi, k * 5 + 4, none⟩ = some (.int .i64 t.f3[k].f4) := hcc 4 _ rfl
      have f4 : w1.frozen? ⟨gi, k * 5 + 4, none⟩ = false := hfr 4
      rw [← HST.out] at e4
      have HF := Aside0.mk (HU1.out.putI k hk (0) rfl)
      have hne : g ≠ gi := fun e => HU1.out.lent.oki_ne gi (HU1.out.lent.inds.1 gi (by simp [Value.ownBlock])) e.symm
      have hne' : gi ≠ g := Ne.symm hne
      have hk0 : (0 : Int) ≤ (k : Int) := by omega
      clear hcl hM hcc hfr hb1 a0 a1 a2 a3 a4 HT
      go_wp2_with fail
      go_region
      all_goals
        have HFd := Aside0.mk (HF.out.step (below_drew (Below.refl _ _)))
        clear b3 e4 f4 HU1 HU HF
        generalize (w1.setCell ⟨gi, k * 5 + 4, none⟩ (.int .i64 0)).drew = wf at HFd ⊢
        have b3 := HFd.out.lent.cell 3 rfl
        obtain ⟨cz, hcl, hM, hcc, hfr⟩ := Kd.R_elem HFd.out.lent.inds z98 (k : Int) (by omega) (by omega)
        rw [show (t.f3.set k ⟨t.f3[k].f0, t.f3[k].f1, t.f3[k].f2, t.f3[k].f3, 0⟩).getD (k : Int).toNat z98 = ⟨t.f3[k].f0, t.f3[k].f1, t.f3[k].f2, t.f3[k].f3, 0⟩ by simp [List.getD, hk]] at hM
        obtain ⟨v2, rfl, -⟩ := k98_openM hM
        have e4 : wf.cell? ⟨gi, k * 5 + 4, none⟩ = some (.int .i64 0) := hcc 4 _ rfl
        clear hcl hM hcc hfr
        have HRb := Aside0.mk (rowsM (Kd.R_bound HFd.out.lent.inds))
        have hlc := (Kd.R_reads' HFd.out.lent.inds).2.1
        have hlm := (Kd.R_reads' HFd.out.lent.inds).1
        rw [List.length_set] at hlm
        have HBW := Aside0.mk (HB.out.trans HFd.out.tch.below)
        have HBZ := Aside0.mk (Nat.le_trans HFd.out.base HFd.out.tch.size)
        obtain ⟨i0, hi0, _, hsz, _⟩ := info_parts info98
        have hcut1 : ∀ X : World, (Instr.slice 68 (.slice (some ⟨gi, 0, none⟩) t.f3.length ci) none (some (.int .i64 (k : Int))) none).run Tryd.prog X = .ok (.slice (some ⟨gi, 0, none⟩) k ci) X := cut_to (P := Tryd.prog) 68 98 .i64 Tryd.underlying68 hi0 (some ⟨gi, 0, none⟩) t.f3.length ci (k : Int) (by omega) (by omega) (by omega)
        obtain ⟨AA, hAA⟩ : ∃ AA : Option Addr, (if ci = k + 1 then (some ⟨gi, 0, none⟩ : Option Addr) else (some ⟨gi, 0, none⟩ : Option Addr).map (·.add ((k + 1) * 5))) = AA := ⟨_, rfl⟩
        have hcut2 : ∀ X : World, (Instr.slice 68 (.slice (some ⟨gi, 0, none⟩) t.f3.length ci) (some (.int .i64 ((k : Int) + 1))) none none).run Tryd.prog X = .ok (.slice AA (t.f3.length - (k + 1)) (ci - (k + 1))) X := by
          intro X
          have h := cut_from (P := Tryd.prog) 68 98 .i64 Tryd.underlying68 hi0 5 hsz (some ⟨gi, 0, none⟩) t.f3.length ci ((k : Int) + 1) (by omega) (by omega) X
          rw [show ((k : Int) + 1).toNat = k + 1 by omega, hAA] at h
          exact h
        clear hi0 hsz
        have HL1 := Lib.hid (show ((t.f3.set k ⟨t.f3[k].f0, t.f3[k].f1, t.f3[k].f2, t.f3[k].f3, 0⟩).take k).length = k by rw [List.length_take, List.length_set]; omega)
        go_wp2_with (first
          | ((with_reducible refine gate_builtin (b := .append) (xs := #[.tmp 70, .tmp 76]) rfl ?_); at_builtin; refine Kd.R_append_rows k98 (w0 := w0) w0.heap.size rfl (.tmp 70) (.tmp 76) 68 98 (.agg #[(.int .i64 0), (.string ⟨#[]⟩), (.slice none 0 0), (.bool false), (.int .i64 0)]) 64 rfl Tryd.underlying68 info98 rfl (by decide) (by omega) (.slice none 0 0) [] ((t.f3.set k ⟨t.f3[k].f0, t.f3[k].f1, t.f3[k].f2, t.f3[k].f3, 0⟩).take k) (some ⟨gi, 0, none⟩) k ci oki _ rfl rfl (Kd.R_nil _ _ _ _ _) (rows_take HRb.out (by omega)) (fun _ _ h => h) (fun j h => ⟨h.1.1, by simp [Value.ownBlock]⟩) (fun j hj => HFd.out.lent.fresh j hj) HBW.out HBZ.out (by simp only [List.length_nil]; omega) ?_; intro v1 w2 ho1 hb1 hg1 hn1; rw [List.nil_append] at ho1; have HBB1 := Aside0.mk (show Below wf.heap.size wf w2 from (Below.refl _ _).grown hg1 (Nat.le_refl _) (fun j hj => by simp [Value.ownBlock] at hj)); obtain ⟨A1, c1, hv1⟩ := Kd.R_slice ho1; rw [HL1.out] at hv1; subst hv1; have HO1 := Aside0.mk ho1; have HB1 := Aside0.mk hb1; have HN1 := Aside0.mk hn1; have HF2 := Aside0.mk (HFd.out.step HBB1.out); have d3 := HF2.out.lent.cell 3 rfl; clear ho1 hb1 hg1 hn1 b3 e4)
          | ((with_reducible refine gate_builtin (b := .append) (xs := #[.tmp 78, .tmp 85]) rfl ?_); at_builtin; refine Kd.R_append_rows k98 (w0 := w0) w0.heap.size rfl (.tmp 78) (.tmp 85) 68 98 (.agg #[(.int .i64 0), (.string ⟨#[]⟩), (.slice none 0 0), (.bool false), (.int .i64 0)]) 64 rfl Tryd.underlying68 info98 rfl (by decide) (by omega) (.slice A1 k c1) ((t.f3.set k ⟨t.f3[k].f0, t.f3[k].f1, t.f3[k].f2, t.f3[k].f3, 0⟩).take k) ((t.f3.set k ⟨t.f3[k].f0, t.f3[k].f1, t.f3[k].f2, t.f3[k].f3, 0⟩).drop (k + 1)) AA (t.f3.length - (k + 1)) (ci - (k + 1)) oki _ rfl rfl HO1.out (hAA ▸ (ReadsRow.imp_ (rows_drop HRb.out (by omega) (by omega)) HBB1.out (fun _ _ hp => k98.M_below hp HBB1.out))) (fun _ _ h => h) (fun j h => ⟨h.1.1, fun e => by rcases HN1.out with q | ⟨b, q, hb⟩; (rw [q] at e; simp [Value.ownBlock] at e); (rw [q] at e; injection e with e; have := h.1.2.2.1; omega)⟩) (fun j hj => HF2.out.lent.fresh j hj) HB1.out (Nat.le_trans HBZ.out HBB1.out.size) (by rw [List.length_take, List.length_set]; omega) ?_; intro v2 w3 ho2 hb2 hg2 hn2; rw [erase_set] at ho2; obtain ⟨A2, c2, hv2⟩ := Kd.R_slice ho2; subst hv2; have HBB2 := Aside0.mk (show Below wf.heap.size wf w3 from HBB1.out.grown hg2 HBB1.out.size (fun j hj => by rcases HN1.out with q | ⟨b, q, hb⟩; (rw [q] at hj; simp [Value.ownBlock] at hj); (rw [q] at hj; injection hj with hj; omega))); have HF3 := Aside0.mk (HFd.out.step HBB2.out); have g3 := HF3.out.lent.cell 3 rfl; have gf := HF3.out.lent.frozen (i * 5 + 3); have HFF := Aside0.mk (HF3.out.setI (World.grownBy.refl w3 _) ho2 rfl); clear ho2 hb2 hg2 hn2 d3))
        go_end0
        rw [hRR.out]
        exact ⟨rfl, HFF.out.done⟩
  · have hRR := Lib.hid (show turnI t k (st + by_) = ⟨t.f0, t.f1, t.f2, t.f3.set k ⟨t.f3[k].f0, t.f3[k].f1, t.f3[k].f2, t.f3[k].f3, st + by_⟩, t.f4⟩ by unfold turnI; rw [if_neg hne0, rd98 _ _ hk])
    obtain ⟨T, hT⟩ : ∃ T, turnI t k (st + by_) = T := ⟨_, rfl⟩
    rw [hT] at hRR
    rw [hT]
    have hq : (st + by_ == 0) = false := by simpa using hne0
    clear hT
    rcases hkd with rfl | rfl
    all_goals
      go_enter Tryd.func69, Tryd.ntmps69
      go_wp2_with fail
      refine HT.out.mono ?_
      rintro e w1 ⟨rfl, hb1⟩
      have HU1 := Aside0.mk (HU.out.step hb1)
      have b3 := HU1.out.lent.cell 3 rfl
      obtain ⟨cz, hcl, hM, hcc, hfr⟩ := Kd.R_elem HU1.out.lent.inds z98 (k : Int) (by omega) (by omega)
      rw [show t.f3.getD (k : Int).toNat z98 = t.f3[k] by simp [List.getD, hk]] at hM
      obtain ⟨v2, rfl, -⟩ := k98_openM hM
      have e4 : w1.cell? ⟨gi, k * 5 + 4, none⟩ = some (.int .i64 t.f3[k].f4) := hcc 4 _ rfl
      have f4 : w1.frozen? ⟨gi, k * 5 + 4, none⟩ = false := hfr 4
      rw [← HST.out] at e4
      have HF := Aside0.mk (HU1.out.putI k hk (st + by_) rfl)
      have hne : g ≠ gi := fun e => HU1.out.lent.oki_ne gi (HU1.out.lent.inds.1 gi (by simp [Value.ownBlock])) e.symm
      have hne' : gi ≠ g := Ne.symm hne
      have hk0 : (0 : Int) ≤ (k : Int) := by omega
      clear hcl hM hcc hfr hb1 a0 a1 a2 a3 a4 HT
      go_wp2_with fail
      go_region
      all_goals
        go_wp2
        go_end0
        rw [hRR.out]
        exact ⟨rfl, (HF.out.step (below_drew (Below.refl _ _))).done⟩
set_option maxRecDepth 100000 in
set_option maxHeartbeats 4000000 in
theorem turnC_at (kind : Int) (hkd : kind = 8 ∨ kind = 9) (elem by_ : Int) (hby : by_ = 1 ∨ by_ = -1) : TurnAt kind elem by_ := by
  have k67 : ¬ (kind = 6 ∨ kind = 7) := by rcases hkd with rfl | rfl <;> decide
  have k89 : 8 ≤ kind ∧ kind ≤ 11 := by rcases hkd with rfl | rfl <;> decide
  have k10 : kind < 10 := by rcases hkd with rfl | rfl <;> decide
  intro w0 W g n cap ts i oki t cv iv hB hL ht he0 he4
  obtain ⟨m2, m3, m4, m5⟩ := tableB_lens ht
  obtain ⟨Ac, cc, hcv, lcc, hCc⟩ := Kd.R_reads hL.cols
  obtain ⟨Ai, ci, hiv, lci, hCi⟩ := Kd.R_reads hL.inds
  subst hcv hiv
  have hix := idxL_at (cId elem) t.f2
  have hel : elemI t kind elem = if 0 ≤ idxL (cId elem) t.f2 0 then (rd_T75 t.f2 (idxL (cId elem) t.f2 0)).f3 else -1 := by unfold elemI; rw [if_neg k67, if_pos k89, if_pos k10]
  obtain ⟨ix, hixx⟩ : ∃ ix, idxL (cId elem) t.f2 0 = ix := ⟨_, rfl⟩
  have HT := Lib.hid (rcolumn_calls t (by omega) elem Ac cc Ai ci W lcc hCc lci hCi)
  have hR : turnP t kind elem by_ = turnC t (idxL (cId elem) t.f2 0).toNat (elemI t kind elem + by_) := by unfold turnP; rw [if_neg k67, if_pos hkd]
  rw [hR]
  rw [hixx] at hix hel HT ⊢
  rcases hix with rfl | ⟨k, hk, rfl, -⟩
  · rw [hel, if_neg (by omega)] at he0; omega
  rw [if_pos (by omega), rd75 _ _ hk] at hel
  obtain ⟨st, hst⟩ : ∃ st, elemI t kind elem = st := ⟨_, rfl⟩
  rw [hst] at he0 he4 hel ⊢
  have HST := Lib.hid hel
  obtain ⟨gi, ci', hgi, -⟩ := Kd.R_form hL.cols (by omega)
  obtain rfl : Ac = some ⟨gi, 0, none⟩ := by injection hgi
  clear hgi
  have HU := Aside0.mk (⟨hL, Tch.refl _ _, hB.size⟩ : UpdSt w0 W W g n cap ts i oki t (.slice (some ⟨gi, 0, none⟩) t.f2.length cc) (.slice Ai t.f3.length ci))
  have HB := Aside0.mk hB
  have a0 := hL.cell 0 rfl
  have a1 := hL.cell 1 rfl
  have a2 := hL.cell 2 rfl
  have a3 := hL.cell 3 rfl
  have a4 := hL.cell 4 rfl
  rw [Nat.add_zero] at a0
  have hkl : (k : Int) < (t.f2.length : Int) := by omega
  rw [Int.toNat_natCast]
  clear k67 k89 k10 hB hL ht hR hixx hst hel hCc hCi m5
  have hcase : (by_ = -1 ∧ st = 1) ∨ (st + by_ ≠ 0 ∧ -1 ≤ st + by_ ∧ st + by_ ≤ 5) := by omega
  rcases hcase with ⟨rfl, rfl⟩ | ⟨hne0, hb0, hb5⟩
  · have hRR := Lib.hid (show turnC t k (1 + -1) = ⟨t.f0, t.f1, t.f2.eraseIdx k, t.f3, t.f4⟩ by unfold turnC; rw [if_pos (by decide)])
    obtain ⟨T, hT⟩ : ∃ T, turnC t k (1 + -1) = T := ⟨_, rfl⟩
    rw [hT] at hRR
    rw [hT]
    clear hT
    rcases hkd with rfl | rfl
    all_goals
      go_enter Tryd.func69, Tryd.ntmps69
      go_wp2_with fail
      refine HT.out.mono ?_
      rintro e w1 ⟨rfl, hb1⟩
      have HU1 := Aside0.mk (HU.out.step hb1)
      have b2 := HU1.out.lent.cell 2 rfl
      obtain ⟨cz, hcl, hM, hcc, hfr⟩ := Kd.R_elem HU1.out.lent.cols z75 (k : Int) (by omega) (by omega)
      rw [show t.f2.getD (k : Int).toNat z75 = t.f2[k] by simp [List.getD, hk]] at hM
      obtain rfl := k75_openM hM
      have e3 : w1.cell? ⟨gi, k * 9 + 3, none⟩ = some (.int .i64 t.f2[k].f3) := hcc 3 _ rfl
      have f3 : w1.frozen? ⟨gi, k * 9 + 3, none⟩ = false := hfr 3
      rw [← HST.out] at e3
      have HF := Aside0.mk (HU1.out.putS k hk (0) rfl)
      have hne : g ≠ gi := fun e => HU1.out.lent.oki_ne gi (HU1.out.lent.cols.1 gi (by simp [Value.ownBlock])) e.symm
      have hne' : gi ≠ g := Ne.symm hne
      have hk0 : (0 : Int) ≤ (k : Int) := by omega
      clear hcl hM hcc hfr hb1 a0 a1 a2 a3 a4 HT
      go_wp2_with fail
      go_region
      all_goals
        have HFd := Aside0.mk (HF.out.step (below_drew (Below.refl _ _)))
        clear b2 e3 f3 HU1 HU HF
        generalize (w1.setCell ⟨gi, k * 9 + 3, none⟩ (.int .i64 0)).drew = wf at HFd ⊢
        have b2 := HFd.out.lent.cell 2 rfl
        obtain ⟨cz, hcl, hM, hcc, hfr⟩ := Kd.R_elem HFd.out.lent.cols z75 (k : Int) (by omega) (by omega)
        rw [show (t.f2.set k ⟨t.f2[k].f0, t.f2[k].f1, t.f2[k].f2, 0, t.f2[k].f4, t.f2[k].f5⟩).getD (k : Int).toNat z75 = ⟨t.f2[k].f0, t.f2[k].f1, t.f2[k].f2, 0, t.f2[k].f4, t.f2[k].f5⟩ by simp [List.getD, hk]] at hM
        obtain rfl := k75_openM hM
        have e3 : wf.cell? ⟨gi, k * 9 + 3, none⟩ = some (.int .i64 0) := hcc 3 _ rfl
        clear hcl hM hcc hfr
        have HRb := Aside0.mk (rowsM (Kd.R_bound HFd.out.lent.cols))
        have hlc := (Kd.R_reads' HFd.out.lent.cols).2.1
        have hlm := (Kd.R_reads' HFd.out.lent.cols).1
        rw [List.length_set] at hlm
        have HBW := Aside0.mk (HB.out.trans HFd.out.tch.below)
        have HBZ := Aside0.mk (Nat.le_trans HFd.out.base HFd.out.tch.size)
        obtain ⟨i0, hi0, _, hsz, _⟩ := info_parts info75
        have hcut1 : ∀ X : World, (Instr.slice 67 (.slice (some ⟨gi, 0, none⟩) t.f2.length cc) none (some (.int .i64 (k : Int))) none).run Tryd.prog X = .ok (.slice (some ⟨gi, 0, none⟩) k cc) X := cut_to (P := Tryd.prog) 67 75 .i64 Tryd.underlying67 hi0 (some ⟨gi, 0, none⟩) t.f2.length cc (k : Int) (by omega) (by omega) (by omega)
        obtain ⟨AA, hAA⟩ : ∃ AA : Option Addr, (if cc = k + 1 then (some ⟨gi, 0, none⟩ : Option Addr) else (some ⟨gi, 0, none⟩ : Option Addr).map (·.add ((k + 1) * 9))) = AA := ⟨_, rfl⟩
        have hcut2 : ∀ X : World, (Instr.slice 67 (.slice (some ⟨gi, 0, none⟩) t.f2.length cc) (some (.int .i64 ((k : Int) + 1))) none none).run Tryd.prog X = .ok (.slice AA (t.f2.length - (k + 1)) (cc - (k + 1))) X := by
          intro X
          have h := cut_from (P := Tryd.prog) 67 75 .i64 Tryd.underlying67 hi0 9 hsz (some ⟨gi, 0, none⟩) t.f2.length cc ((k : Int) + 1) (by omega) (by omega) X
          rw [show ((k : Int) + 1).toNat = k + 1 by omega, hAA] at h
          exact h
        clear hi0 hsz
        have HL1 := Lib.hid (show ((t.f2.set k ⟨t.f2[k].f0, t.f2[k].f1, t.f2[k].f2, 0, t.f2[k].f4, t.f2[k].f5⟩).take k).length = k by rw [List.length_take, List.length_set]; omega)
        go_wp2_with (first
          | ((with_reducible refine gate_builtin (b := .append) (xs := #[.tmp 125, .tmp 131]) rfl ?_); at_builtin; refine Kd.R_append_rows k75 (w0 := w0) w0.heap.size rfl (.tmp 125) (.tmp 131) 67 75 (.agg #[(.int .i64 0), (.string ⟨#[]⟩), (.int .i64 0), (.int .i64 0), (.int .i64 0), (.int .i64 0), (.int .i64 0), (.int .u64 0), (.string ⟨#[]⟩)]) 88 rfl Tryd.underlying67 info75 rfl (by decide) (by omega) (.slice none 0 0) [] ((t.f2.set k ⟨t.f2[k].f0, t.f2[k].f1, t.f2[k].f2, 0, t.f2[k].f4, t.f2[k].f5⟩).take k) (some ⟨gi, 0, none⟩) k cc oki _ rfl rfl (Kd.R_nil _ _ _ _ _) (rows_take HRb.out (by omega)) (fun _ _ h => h) (fun j h => ⟨h.1.1, by simp [Value.ownBlock]⟩) (fun j hj => HFd.out.lent.fresh j hj) HBW.out HBZ.out (by simp only [List.length_nil]; omega) ?_; intro v1 w2 ho1 hb1 hg1 hn1; rw [List.nil_append] at ho1; have HBB1 := Aside0.mk (show Below wf.heap.size wf w2 from (Below.refl _ _).grown hg1 (Nat.le_refl _) (fun j hj => by simp [Value.ownBlock] at hj)); obtain ⟨A1, c1, hv1⟩ := Kd.R_slice ho1; rw [HL1.out] at hv1; subst hv1; have HO1 := Aside0.mk ho1; have HB1 := Aside0.mk hb1; have HN1 := Aside0.mk hn1; have HF2 := Aside0.mk (HFd.out.step HBB1.out); have d2 := HF2.out.lent.cell 2 rfl; clear ho1 hb1 hg1 hn1 b2 e3)
          | ((with_reducible refine gate_builtin (b := .append) (xs := #[.tmp 133, .tmp 140]) rfl ?_); at_builtin; refine Kd.R_append_rows k75 (w0 := w0) w0.heap.size rfl (.tmp 133) (.tmp 140) 67 75 (.agg #[(.int .i64 0), (.string ⟨#[]⟩), (.int .i64 0), (.int .i64 0), (.int .i64 0), (.int .i64 0), (.int .i64 0), (.int .u64 0), (.string ⟨#[]⟩)]) 88 rfl Tryd.underlying67 info75 rfl (by decide) (by omega) (.slice A1 k c1) ((t.f2.set k ⟨t.f2[k].f0, t.f2[k].f1, t.f2[k].f2, 0, t.f2[k].f4, t.f2[k].f5⟩).take k) ((t.f2.set k ⟨t.f2[k].f0, t.f2[k].f1, t.f2[k].f2, 0, t.f2[k].f4, t.f2[k].f5⟩).drop (k + 1)) AA (t.f2.length - (k + 1)) (cc - (k + 1)) oki _ rfl rfl HO1.out (hAA ▸ (ReadsRow.imp_ (rows_drop HRb.out (by omega) (by omega)) HBB1.out (fun _ _ hp => k75.M_below hp HBB1.out))) (fun _ _ h => h) (fun j h => ⟨h.1.1, fun e => by rcases HN1.out with q | ⟨b, q, hb⟩; (rw [q] at e; simp [Value.ownBlock] at e); (rw [q] at e; injection e with e; have := h.1.2.2.1; omega)⟩) (fun j hj => HF2.out.lent.fresh j hj) HB1.out (Nat.le_trans HBZ.out HBB1.out.size) (by rw [List.length_take, List.length_set]; omega) ?_; intro v2 w3 ho2 hb2 hg2 hn2; rw [erase_set] at ho2; obtain ⟨A2, c2, hv2⟩ := Kd.R_slice ho2; subst hv2; have HBB2 := Aside0.mk (show Below wf.heap.size wf w3 from HBB1.out.grown hg2 HBB1.out.size (fun j hj => by rcases HN1.out with q | ⟨b, q, hb⟩; (rw [q] at hj; simp [Value.ownBlock] at hj); (rw [q] at hj; injection hj with hj; omega))); have HF3 := Aside0.mk (HFd.out.step HBB2.out); have g2 := HF3.out.lent.cell 2 rfl; have gf := HF3.out.lent.frozen (i * 5 + 2); have HFF := Aside0.mk (HF3.out.setC (World.grownBy.refl w3 _) ho2 rfl); clear ho2 hb2 hg2 hn2 d2))
        go_end0
        rw [hRR.out]
        exact ⟨rfl, HFF.out.done⟩
  · have hRR := Lib.hid (show turnC t k (st + by_) = ⟨t.f0, t.f1, t.f2.set k ⟨t.f2[k].f0, t.f2[k].f1, t.f2[k].f2, st + by_, t.f2[k].f4, t.f2[k].f5⟩, t.f3, t.f4⟩ by unfold turnC; rw [if_neg hne0, rd75 _ _ hk])
    obtain ⟨T, hT⟩ : ∃ T, turnC t k (st + by_) = T := ⟨_, rfl⟩
    rw [hT] at hRR
    rw [hT]
    have hq : (st + by_ == 0) = false := by simpa using hne0
    clear hT
    rcases hkd with rfl | rfl
    all_goals
      go_enter Tryd.func69, Tryd.ntmps69
      go_wp2_with fail
      refine HT.out.mono ?_
      rintro e w1 ⟨rfl, hb1⟩
      have HU1 := Aside0.mk (HU.out.step hb1)
      have b2 := HU1.out.lent.cell 2 rfl
      obtain ⟨cz, hcl, hM, hcc, hfr⟩ := Kd.R_elem HU1.out.lent.cols z75 (k : Int) (by omega) (by omega)
      rw [show t.f2.getD (k : Int).toNat z75 = t.f2[k] by simp [List.getD, hk]] at hM
      obtain rfl := k75_openM hM
      have e3 : w1.cell? ⟨gi, k * 9 + 3, none⟩ = some (.int .i64 t.f2[k].f3) := hcc 3 _ rfl
      have f3 : w1.frozen? ⟨gi, k * 9 + 3, none⟩ = false := hfr 3
      rw [← HST.out] at e3
      have HF := Aside0.mk (HU1.out.putS k hk (st + by_) rfl)
      have hne : g ≠ gi := fun e => HU1.out.lent.oki_ne gi (HU1.out.lent.cols.1 gi (by simp [Value.ownBlock])) e.symm
      have hne' : gi ≠ g := Ne.symm hne
      have hk0 : (0 : Int) ≤ (k : Int) := by omega
      clear hcl hM hcc hfr hb1 a0 a1 a2 a3 a4 HT
      go_wp2_with fail
      go_region
      all_goals
        go_wp2
        go_end0
        rw [hRR.out]
        exact ⟨rfl, (HF.out.step (below_drew (Below.refl _ _))).done⟩
set_option maxRecDepth 100000 in
set_option maxHeartbeats 4000000 in
theorem turnN_at (kind : Int) (hkd : kind = 10 ∨ kind = 11) (elem by_ : Int) (hby : by_ = 1 ∨ by_ = -1) : TurnAt kind elem by_ := by
  have k67 : ¬ (kind = 6 ∨ kind = 7) := by rcases hkd with rfl | rfl <;> decide
  have k89 : 8 ≤ kind ∧ kind ≤ 11 := by rcases hkd with rfl | rfl <;> decide
  have k10 : ¬ kind < 10 := by rcases hkd with rfl | rfl <;> decide
  have kn : ¬ (kind = 8 ∨ kind = 9) := by rcases hkd with rfl | rfl <;> decide
  intro w0 W g n cap ts i oki t cv iv hB hL ht he0 he4
  obtain ⟨m2, m3, m4, m5⟩ := tableB_lens ht
  obtain ⟨Ac, cc, hcv, lcc, hCc⟩ := Kd.R_reads hL.cols
  obtain ⟨Ai, ci, hiv, lci, hCi⟩ := Kd.R_reads hL.inds
  subst hcv hiv
  have hix := idxL_at (cId elem) t.f2
  have hel : elemI t kind elem = if 0 ≤ idxL (cId elem) t.f2 0 then (rd_T75 t.f2 (idxL (cId elem) t.f2 0)).f4 else -1 := by unfold elemI; rw [if_neg k67, if_pos k89, if_neg k10]
  obtain ⟨ix, hixx⟩ : ∃ ix, idxL (cId elem) t.f2 0 = ix := ⟨_, rfl⟩
  have HT := Lib.hid (rcolumn_calls t (by omega) elem Ac cc Ai ci W lcc hCc lci hCi)
  have hR : turnP t kind elem by_ = turnN t (idxL (cId elem) t.f2 0).toNat (elemI t kind elem + by_) := by unfold turnP; rw [if_neg k67, if_neg kn]
  rw [hR]
  rw [hixx] at hix hel HT ⊢
  rcases hix with rfl | ⟨k, hk, rfl, -⟩
  · rw [hel, if_neg (by omega)] at he0; omega
  rw [if_pos (by omega), rd75 _ _ hk] at hel
  obtain ⟨st, hst⟩ : ∃ st, elemI t kind elem = st := ⟨_, rfl⟩
  rw [hst] at he0 he4 hel ⊢
  have HST := Lib.hid hel
  obtain ⟨gi, ci', hgi, -⟩ := Kd.R_form hL.cols (by omega)
  obtain rfl : Ac = some ⟨gi, 0, none⟩ := by injection hgi
  clear hgi
  have HU := Aside0.mk (⟨hL, Tch.refl _ _, hB.size⟩ : UpdSt w0 W W g n cap ts i oki t (.slice (some ⟨gi, 0, none⟩) t.f2.length cc) (.slice Ai t.f3.length ci))
  have HB := Aside0.mk hB
  have a0 := hL.cell 0 rfl
  have a1 := hL.cell 1 rfl
  have a2 := hL.cell 2 rfl
  have a3 := hL.cell 3 rfl
  have a4 := hL.cell 4 rfl
  rw [Nat.add_zero] at a0
  have hkl : (k : Int) < (t.f2.length : Int) := by omega
  rw [Int.toNat_natCast]
  clear k67 k89 k10 kn hB hL ht hR hixx hst hel hCc hCi m5
  have hb05 : -1 ≤ st + by_ ∧ st + by_ ≤ 5 := by omega
  have hRR := Lib.hid (show turnN t k (st + by_) = ⟨t.f0, t.f1, t.f2.set k ⟨t.f2[k].f0, t.f2[k].f1, t.f2[k].f2, t.f2[k].f3, st + by_, t.f2[k].f5⟩, t.f3, t.f4⟩ by unfold turnN; rw [rd75 _ _ hk])
  obtain ⟨T, hT⟩ : ∃ T, turnN t k (st + by_) = T := ⟨_, rfl⟩
  rw [hT] at hRR
  rw [hT]
  clear hT
  rcases hkd with rfl | rfl
  all_goals
    go_enter Tryd.func69, Tryd.ntmps69
    go_wp2_with fail
    refine HT.out.mono ?_
    rintro e w1 ⟨rfl, hb1⟩
    have HU1 := Aside0.mk (HU.out.step hb1)
    have b2 := HU1.out.lent.cell 2 rfl
    obtain ⟨cz, hcl, hM, hcc, hfr⟩ := Kd.R_elem HU1.out.lent.cols z75 (k : Int) (by omega) (by omega)
    rw [show t.f2.getD (k : Int).toNat z75 = t.f2[k] by simp [List.getD, hk]] at hM
    obtain rfl := k75_openM hM
    have e4 : w1.cell? ⟨gi, k * 9 + 4, none⟩ = some (.int .i64 t.f2[k].f4) := hcc 4 _ rfl
    have f4 : w1.frozen? ⟨gi, k * 9 + 4, none⟩ = false := hfr 4
    rw [← HST.out] at e4
    have HF := Aside0.mk (HU1.out.putN k hk (st + by_) rfl)
    have hne : g ≠ gi := fun e => HU1.out.lent.oki_ne gi (HU1.out.lent.cols.1 gi (by simp [Value.ownBlock])) e.symm
    have hne' : gi ≠ g := Ne.symm hne
    have hk0 : (0 : Int) ≤ (k : Int) := by omega
    clear hcl hM hcc hfr hb1 a0 a1 a2 a3 a4 HT
    go_wp2_with fail
    go_region
    all_goals
      go_wp2
      go_end0
      rw [hRR.out]
      exact ⟨rfl, (HF.out.step (below_drew (Below.refl _ _))).done⟩
end Go.Proofs.YtjgomlcdmpcoaaaDoor.H
