/- Own texts of this session, packed by its program wip/pp/pack.py: lemmas and walks of functions. -/
import Derived.Test.YtjgomlcdmpcoaaaDoorKCC17
import Derived.Test.YtjgomlcdmpcoaaaDoorKCC22
namespace Go.Proofs.YtjgomlcdmpcoaaaDoor.H
open Go.RowKit Go.Proofs.YtjgomlcdmpcoaaaDoorW.PrintWords Go.Proofs.YtjgomlcdmpcoaaaDoorW.PrintLast Go.Proofs.YtjgomlcdmpcoaaaDoorW.PrintMore
open Go.Proofs.YtjgomlcdmpcoaaaDoor.D Go.Proofs.YtjgomlcdmpcoaaaDoor
set_option linter.unusedVariables false
set_option linter.unusedSimpArgs false
def nxtE (v : Int) (ts : List S70) (nx : Int) : Int := if schB v ts nx = false then 3 else if 1099511627775 ≤ v then 4 else 0
def NxtPost (v : Int) (ts : List S70) (nx : Int) (w : World) (e : Ending) (w' : World) : Prop :=
  Below w.heap.size w w' ∧ ((nxtE v ts nx ≠ 0 ∧ e = .returned (.tuple #[.agg #[.int .i64 0, .slice none 0 0, .int .i64 0], .int .i64 (nxtE v ts nx)])) ∨
    (nxtE v ts nx = 0 ∧ ∃ u, e = .returned (.tuple #[.agg #[.int .i64 (v + 1), u, .int .i64 nx], .int .i64 0]) ∧ Kd.S k70 70 w' w.heap.size (fun _ => True) u ts))
set_option maxRecDepth 100000 in
set_option maxHeartbeats 8000000 in
theorem cnext_calls (v : Int) (ts : List S70) (nx : Int) (hwf : ∀ t ∈ ts, TabWf t) (hv64 : -9223372036854775808 ≤ v ∧ v < 9223372036854775808) (A : Option Addr) (c : Nat) (w : World) (hG : GL w) (hc : ts.length ≤ c) (hC : k70.C w A ts.length ts) :
    Calls Tryd.prog 92 #[.agg #[.int .i64 v, .slice A ts.length c, .int .i64 nx]] w (NxtPost v ts nx w) := by
  obtain ⟨w0, hw0⟩ : ∃ w0, w0 = (w.alloc (.cells #[.int .i64 v, .slice A ts.length c, .int .i64 nx] 28)).alloc (.cells #[.int .i64 0, .slice none 0 0, .int .i64 0] 28) := ⟨_, rfl⟩
  have hb0 : Below w.heap.size w w0 := by rw [hw0]; exact below_alloc (below_alloc (Below.refl _ _) _) _
  have hB0 : CopB w w0 v nx (.slice A ts.length c) := by
    rw [hw0]
    refine ⟨blk_alloc (heap_alloc_new w _) _, ?_⟩
    have := heap_alloc_new (w.alloc (.cells #[.int .i64 v, .slice A ts.length c, .int .i64 nx] 28)) (.cells #[.int .i64 0, .slice none 0 0, .int .i64 0] 28)
    simpa using this
  have HM := Lib.hid (may_calls v ts nx hwf A c w0 (hG.of_below hb0) (Kd.C_below hC hb0))
  have HB0 := Aside0.mk hb0
  have HX0 := Aside0.mk hB0
  have HC := Aside0.mk hC
  have HW0 := Lib.hid hw0
  rw [hw0] at HM
  clear hb0 hB0 hC hG hwf hw0
  cases hsch : schB v ts nx with
  | false =>
    have HE := Lib.hid (show nxtE v ts nx = 3 by unfold nxtE; rw [if_pos hsch])
    rw [hsch] at HM
    clear hsch
    go_enter Tryd.func92, Tryd.ntmps92
    go_wp2_with fail
    refine HM.out.mono ?_
    rw [← HW0.out]
    rintro e w1 ⟨rfl, hb1⟩
    have hX1 := HX0.out.step hb1
    have HB1 := Aside0.mk (below_then HB0.out HB0.out.size hb1)
    have f0 := blk_frozen hX1.b1 0
    have f1 := blk_frozen hX1.b1 1
    have f2 := blk_frozen hX1.b1 2
    have c0 := blk_cell (j := 0) (v := .int .i64 0) hX1.b1 rfl
    have c1 := blk_cell (j := 1) (v := .slice none 0 0) hX1.b1 rfl
    have c2 := blk_cell (j := 2) (v := .int .i64 0) hX1.b1 rfl
    have hl : w.heap.size ≤ w.heap.size + 1 := by omega
    clear hb1 hX1
    go_wp2
    refine bodyPost_ret (v := .tuple #[.agg #[.int .i64 0, .slice none 0 0, .int .i64 0], .int .i64 3]) (by simp [results, Tryd.results92, go_sem, c0, c1, c2]) rfl ?_
    exact ⟨((HB1.out.setCell hl _).setCell hl _).setCell hl _, .inl ⟨by rw [HE.out]; decide, by rw [HE.out]⟩⟩
  | true =>
  rw [hsch] at HM
  have HS := Lib.hid hsch
  have hvv : 0 ≤ v ∧ v < 1099511627776 := by unfold schB at hsch; simp only [Bool.and_eq_true, decide_eq_true_eq] at hsch; exact ⟨hsch.1, hsch.2.1⟩
  clear hsch
  by_cases hv : 1099511627775 ≤ v
  · have HE := Lib.hid (show nxtE v ts nx = 4 by unfold nxtE; rw [if_neg (by rw [HS.out]; simp), if_pos hv])
    have hd : decide (1099511627776 ≤ v + 1) = true := decide_eq_true (by omega)
    go_enter Tryd.func92, Tryd.ntmps92
    go_wp2_with fail
    refine HM.out.mono ?_
    rw [← HW0.out]
    rintro e w1 ⟨rfl, hb1⟩
    have hX1 := HX0.out.step hb1
    have HB1 := Aside0.mk (below_then HB0.out HB0.out.size hb1)
    have x0 := blk_cell (j := 0) (v := .int .i64 v) hX1.b0 rfl
    have f0 := blk_frozen hX1.b1 0
    have f1 := blk_frozen hX1.b1 1
    have f2 := blk_frozen hX1.b1 2
    have c0 := blk_cell (j := 0) (v := .int .i64 0) hX1.b1 rfl
    have c1 := blk_cell (j := 1) (v := .slice none 0 0) hX1.b1 rfl
    have c2 := blk_cell (j := 2) (v := .int .i64 0) hX1.b1 rfl
    have hl : w.heap.size ≤ w.heap.size + 1 := by omega
    clear hb1 hX1
    go_wp2
    refine bodyPost_ret (v := .tuple #[.agg #[.int .i64 0, .slice none 0 0, .int .i64 0], .int .i64 4]) (by simp [results, Tryd.results92, go_sem, c0, c1, c2]) rfl ?_
    exact ⟨((HB1.out.setCell hl _).setCell hl _).setCell hl _, .inl ⟨by rw [HE.out]; decide, by rw [HE.out]⟩⟩
  · have HE := Lib.hid (show nxtE v ts nx = 0 by unfold nxtE; rw [if_neg (by rw [HS.out]; simp), if_neg hv])
    have hd : decide (1099511627776 ≤ v + 1) = false := decide_eq_false (by omega)
    have hvlt : v < 1099511627775 := by omega
    clear hv
    go_enter Tryd.func92, Tryd.ntmps92
    go_wp2_with fail
    refine HM.out.mono ?_
    rw [← HW0.out]
    rintro e w1 ⟨rfl, hb1⟩
    have hX1 := HX0.out.step hb1
    have HX1 := Aside0.mk hX1
    have HB1 := Aside0.mk (below_then HB0.out HB0.out.size hb1)
    have x0 := blk_cell (j := 0) (v := .int .i64 v) hX1.b0 rfl
    have x1 := blk_cell (j := 1) (v := .slice A ts.length c) hX1.b0 rfl
    have x2 := blk_cell (j := 2) (v := .int .i64 nx) hX1.b0 rfl
    clear hb1 hX1
    go_wp2_with fail
    refine (copied_calls v ts nx (schB_small HS.out) A c w1 hc (Kd.C_below HC.out HB1.out)).mono ?_
    rintro e w2 ⟨u, rfl, hS, hb2⟩
    have hX2 := HX1.out.step hb2
    have HX2 := Aside0.mk hX2
    have HB2 := Aside0.mk (below_then HB1.out HB1.out.size hb2)
    have hS' := Kd.S_lower hS HB1.out.size
    obtain ⟨Au, cu, hue⟩ := Kd.S_slice hS'
    subst hue
    have HS2 := Aside0.mk hS'
    have hlt2 : w.heap.size + 1 < w2.heap.size := lt_of_block hX2.b1
    have f0 := blk_frozen hX2.b1 0
    have f1 := blk_frozen hX2.b1 1
    have f2 := blk_frozen hX2.b1 2
    have c0 := blk_cell (j := 0) (v := .int .i64 0) hX2.b1 rfl
    have c1 := blk_cell (j := 1) (v := .slice none 0 0) hX2.b1 rfl
    have c2 := blk_cell (j := 2) (v := .int .i64 0) hX2.b1 rfl
    have hl : w.heap.size ≤ w.heap.size + 1 := by omega
    have hS4 := Kd.S_alloc (S_set3 (a := .int .i64 (v + 1)) (b := .slice Au ts.length cu) (c := .int .i64 nx) hS' hX2.b1) (.cells #[.int .i64 (v + 1), .slice Au ts.length cu, .int .i64 nx] 28)
    have hb4 := below_alloc (((HB2.out.setCell (p := ⟨w.heap.size + 1, 0, none⟩) hl (.int .i64 (v + 1))).setCell (p := ⟨w.heap.size + 1, 1, none⟩) hl (.slice Au ts.length cu)).setCell (p := ⟨w.heap.size + 1, 2, none⟩) hl (.int .i64 nx)) (.cells #[.int .i64 (v + 1), .slice Au ts.length cu, .int .i64 nx] 28)
    have hz := blk_alloc (blk_put (blk_put (blk_put hX2.b1 0 (.int .i64 (v + 1)) rfl) 1 (.slice Au ts.length cu) rfl) 2 (.int .i64 nx) rfl) (.cells #[.int .i64 (v + 1), .slice Au ts.length cu, .int .i64 nx] 28)
    have r0 := blk_cell (j := 0) (v := .int .i64 (v + 1)) hz rfl
    have r1 := blk_cell (j := 1) (v := .slice Au ts.length cu) hz rfl
    have r2 := blk_cell (j := 2) (v := .int .i64 nx) hz rfl
    have HR012 := Aside0.mk (And.intro r0 (And.intro r1 r2))
    have HFIN := Aside0.mk (And.intro hS4 hb4)
    clear hS hb2 hX2 hS' x0 x1 x2 hS4 hb4 hz r0 r1 r2
    go_wp2
    refine bodyPost_ret (v := .tuple #[.agg #[.int .i64 (v + 1), .slice Au ts.length cu, .int .i64 nx], .int .i64 0]) (by obtain ⟨r0, r1, r2⟩ := HR012.out; simp [results, Tryd.results92, go_sem, r0, r1, r2]) rfl ?_
    exact ⟨HFIN.out.2, .inr ⟨HE.out, _, rfl, HFIN.out.1⟩⟩
end Go.Proofs.YtjgomlcdmpcoaaaDoor.H
namespace Go.Proofs.YtjgomlcdmpcoaaaDoor.H
open Go.RowKit Go.Proofs.YtjgomlcdmpcoaaaDoorW.PrintWords Go.Proofs.YtjgomlcdmpcoaaaDoorW.PrintLast Go.Proofs.YtjgomlcdmpcoaaaDoorW.PrintMore
open Go.Proofs.YtjgomlcdmpcoaaaDoor.D Go.Proofs.YtjgomlcdmpcoaaaDoor
set_option linter.unusedVariables false
set_option linter.unusedSimpArgs false
theorem enters110 (args : Array Value) (w : World) : (callFunc 110 args).run Tryd.prog w = .ok (.enter 110 args) w := enters Tryd.func110 (by kernel_rfl) rfl args w
theorem enters106 (args : Array Value) (w : World) : (callFunc 106 args).run Tryd.prog w = .ok (.enter 106 args) w := enters Tryd.func106 (by kernel_rfl) rfl args w
set_option maxHeartbeats 1000000 in
theorem pred110 (n : ByteArray) (B : Nat) (w : World) (hB : B < w.heap.size) (hc : w.cell? ⟨B, 0, none⟩ = some (.string n)) : Pred k70 110 #[.pointer (some ⟨B, 0, none⟩)] (fun c => c.f1.toList == n.toList) w := by
  intro W x cs hb hK
  obtain ⟨A2, c2, A3, c3, rfl, l2, g2, l3, g3⟩ := k70_open hK
  have hc' := (hb.cell (p := ⟨B, 0, none⟩) hB).trans hc
  have hl : B < W.heap.size := Nat.lt_of_lt_of_le hB hb.size
  show Calls Tryd.prog 110 #[.agg #[.int .i64 x.f0, .string x.f1, .slice A2 x.f2.length c2, .slice A3 x.f3.length c3, .int .i64 x.f4], .pointer (some ⟨B, 0, none⟩)] W _
  have HB := Aside0.mk hb
  clear hb hc hK
  go_enter Tryd.func110, Tryd.ntmps110
  go_wp2
  go_ret
  exact ⟨rfl, below_then HB.out HB.out.size (below_alloc (Below.refl _ _) _)⟩
set_option maxHeartbeats 1000000 in
theorem pred106 (n : ByteArray) (B : Nat) (w : World) (hB : B < w.heap.size) (hc : w.cell? ⟨B, 1, none⟩ = some (.string n)) : Pred k70 106 #[.pointer (some ⟨B, 0, none⟩)] (fun c => c.f1.toList == n.toList) w := by
  intro W x cs hb hK
  obtain ⟨A2, c2, A3, c3, rfl, l2, g2, l3, g3⟩ := k70_open hK
  have hc' := (hb.cell (p := ⟨B, 1, none⟩) hB).trans hc
  have hl : B < W.heap.size := Nat.lt_of_lt_of_le hB hb.size
  show Calls Tryd.prog 106 #[.agg #[.int .i64 x.f0, .string x.f1, .slice A2 x.f2.length c2, .slice A3 x.f3.length c3, .int .i64 x.f4], .pointer (some ⟨B, 0, none⟩)] W _
  have HB := Aside0.mk hb
  clear hb hc hK
  go_enter Tryd.func106, Tryd.ntmps106
  go_wp2
  go_ret
  exact ⟨rfl, below_then HB.out HB.out.size (below_alloc (Below.refl _ _) _)⟩
theorem tName_same (n : ByteArray) (ts : List S70) : idxL (fun c : S70 => c.f1.toList == n.toList) ts 0 = idxL (tName n) ts 0 :=
  idxL_same _ _ (fun c => by unfold tName; exact (Bool.beq_eq_decide_eq _ _)) ts 0
theorem S_farB {W : World} {B b j : Nat} {u v : Value} {ts : List S70} (h : Kd.S k70 70 W B (fun _ => True) v ts) (hb : b < B) : Kd.S k70 70 (W.setCell ⟨b, j, none⟩ u) B (fun _ => True) v ts :=
  Kd.S_mono (Kd.S_far (p := ⟨b, j, none⟩) (Kd.S_bound h) (fun k hk e => by have h1 := hk.2.1; have e' : k = b := e; omega) u) (fun _ _ => trivial)
theorem cell_farB {W : World} {b g j q : Nat} {u : Value} (h : g ≠ b) : (W.setCell ⟨b, j, none⟩ u).cell? ⟨g, q, none⟩ = W.cell? ⟨g, q, none⟩ := by
  simp [World.cell?, Below.heap_setCell W ⟨b, j, none⟩ u g h]
def TabB (w W : World) (bx : Array Value) (n : ByteArray) : Prop := W.heap[w.heap.size]? = some (.cells bx 28 (0, 0)) ∧ W.heap[w.heap.size + 1]? = some (.cells #[.string n] 9 (0, 0)) ∧ W.heap[w.heap.size + 2]? = some (.cells #[.int .i64 0, .string ⟨#[]⟩, .slice none 0 0, .slice none 0 0, .int .i64 0] 70 (0, 0))
theorem TabB.step {w W W' : World} {bx : Array Value} {n : ByteArray} (h : TabB w W bx n) (hb : Below W.heap.size W W') : TabB w W' bx n := ⟨blk_below h.1 hb, blk_below h.2.1 hb, blk_below h.2.2 hb⟩
def TabP (v : Int) (ts : List S70) (nx : Int) (n : ByteArray) : Int := if schB v ts nx = false then -1 else idxL (tName n) ts 0
def TabPost (v : Int) (ts : List S70) (nx : Int) (n : ByteArray) (w : World) (e : Ending) (w' : World) : Prop :=
  Below w.heap.size w w' ∧ ((TabP v ts nx n = -1 ∧ e = .returned (.tuple #[.agg #[.int .i64 0, .string ⟨#[]⟩, .slice none 0 0, .slice none 0 0, .int .i64 0], .bool false])) ∨
    (∃ k : Nat, ∃ h : k < ts.length, TabP v ts nx n = (k : Int) ∧ ∃ cs : List Value, e = .returned (.tuple #[.agg cs.toArray, .bool true]) ∧ k70.K w' ts[k] cs))
set_option maxRecDepth 100000 in
set_option maxHeartbeats 8000000 in
theorem tableC_calls (v : Int) (ts : List S70) (nx : Int) (n : ByteArray) (hwf : ∀ t ∈ ts, TabWf t) (A : Option Addr) (c : Nat) (w : World) (hG : GL w) (hc : ts.length ≤ c) (hC : k70.C w A ts.length ts) :
    Calls Tryd.prog 54 #[.agg #[.int .i64 v, .slice A ts.length c, .int .i64 nx], .string n] w (TabPost v ts nx n w) := by
  obtain ⟨w0, hw0⟩ : ∃ w0, w0 = ((w.alloc (.cells #[.int .i64 v, .slice A ts.length c, .int .i64 nx] 28)).alloc (.cells #[.string n] 9)).alloc (.cells #[.int .i64 0, .string ⟨#[]⟩, .slice none 0 0, .slice none 0 0, .int .i64 0] 70) := ⟨_, rfl⟩
  have hb0 : Below w.heap.size w w0 := by rw [hw0]; exact below_alloc (below_alloc (below_alloc (Below.refl _ _) _) _) _
  have hB0 : TabB w w0 #[.int .i64 v, .slice A ts.length c, .int .i64 nx] n := by
    rw [hw0]
    refine ⟨blk_alloc (blk_alloc (heap_alloc_new w _) _) _, ?_, ?_⟩
    · have := blk_alloc (heap_alloc_new (w.alloc (.cells #[.int .i64 v, .slice A ts.length c, .int .i64 nx] 28)) (.cells #[.string n] 9)) (.cells #[.int .i64 0, .string ⟨#[]⟩, .slice none 0 0, .slice none 0 0, .int .i64 0] 70)
      simpa using this
    · have := heap_alloc_new ((w.alloc (.cells #[.int .i64 v, .slice A ts.length c, .int .i64 nx] 28)).alloc (.cells #[.string n] 9)) (.cells #[.int .i64 0, .string ⟨#[]⟩, .slice none 0 0, .slice none 0 0, .int .i64 0] 70)
      simpa using this
  have HM := Lib.hid (may_calls v ts nx hwf A c w0 (hG.of_below hb0) (Kd.C_below hC hb0))
  have HB0 := Aside0.mk hb0
  have HX0 := Aside0.mk hB0
  have HC := Aside0.mk hC
  have HW0 := Lib.hid hw0
  rw [hw0] at HM
  clear hb0 hB0 hC hG hwf hw0
  cases hsch : schB v ts nx with
  | false =>
    have HE := Lib.hid (show TabP v ts nx n = -1 by unfold TabP; rw [if_pos hsch])
    rw [hsch] at HM
    clear hsch
    go_enter Tryd.func54, Tryd.ntmps54
    go_wp2_with fail
    refine HM.out.mono ?_
    rw [← HW0.out]
    rintro e w1 ⟨rfl, hb1⟩
    have hX1 := HX0.out.step hb1
    have HB1 := Aside0.mk (below_then HB0.out HB0.out.size hb1)
    have f0 := blk_frozen hX1.2.2 0
    have c0 := blk_cell (j := 0) (v := .int .i64 0) hX1.2.2 rfl
    have f1 := blk_frozen hX1.2.2 1
    have c1 := blk_cell (j := 1) (v := .string ⟨#[]⟩) hX1.2.2 rfl
    have f2 := blk_frozen hX1.2.2 2
    have c2 := blk_cell (j := 2) (v := .slice none 0 0) hX1.2.2 rfl
    have f3 := blk_frozen hX1.2.2 3
    have c3 := blk_cell (j := 3) (v := .slice none 0 0) hX1.2.2 rfl
    have f4 := blk_frozen hX1.2.2 4
    have c4 := blk_cell (j := 4) (v := .int .i64 0) hX1.2.2 rfl
    have hl : w.heap.size ≤ w.heap.size + 1 + 1 := by omega
    clear hb1 hX1
    go_wp2
    refine bodyPost_ret (v := .tuple #[.agg #[.int .i64 0, .string ⟨#[]⟩, .slice none 0 0, .slice none 0 0, .int .i64 0], .bool false]) (by simp [results, Tryd.results54, go_sem, c0, c1, c2, c3, c4]) rfl ?_
    exact ⟨((((HB1.out.setCell hl _).setCell hl _).setCell hl _).setCell hl _).setCell hl _, .inl ⟨HE.out, rfl⟩⟩
  | true =>
  rw [hsch] at HM
  have HS := Lib.hid hsch
  have HE := Lib.hid (show TabP v ts nx n = idxL (tName n) ts 0 by unfold TabP; rw [if_neg (by rw [hsch]; simp)])
  clear hsch
  go_enter Tryd.func54, Tryd.ntmps54
  go_wp2_with fail
  refine HM.out.mono ?_
  rw [← HW0.out]
  rintro e w1 ⟨rfl, hb1⟩
  have hX1 := HX0.out.step hb1
  have HX1 := Aside0.mk hX1
  have HB1 := Aside0.mk (below_then HB0.out HB0.out.size hb1)
  have x0 := blk_cell (j := 0) (v := .int .i64 v) hX1.1 rfl
  have x1 := blk_cell (j := 1) (v := .slice A ts.length c) hX1.1 rfl
  have x2 := blk_cell (j := 2) (v := .int .i64 nx) hX1.1 rfl
  clear hb1 hX1
  go_wp2_with fail
  refine (copied_calls v ts nx (schB_small HS.out) A c w1 hc (Kd.C_below HC.out HB1.out)).mono ?_
  rintro e w2 ⟨u, rfl, hS, hb2⟩
  obtain ⟨Au, cu, rfl, lcu, hCu⟩ := Kd.S_reads hS
  have hX2 := HX1.out.step hb2
  have HB2 := Aside0.mk (below_then HB1.out HB1.out.size hb2)
  have hba := below_alloc (Below.refl _ w2) (.cells #[.int .i64 v, .slice Au ts.length cu, .int .i64 nx] 28)
  have hX3 := hX2.step hba
  have HX3 := Aside0.mk hX3
  have HB3 := Aside0.mk (below_then HB2.out HB2.out.size hba)
  have hC3 := Kd.C_below hCu hba
  have HC3 := Aside0.mk hC3
  have HSS3 := Aside0.mk (Kd.S_below hS hba)
  have hlt1 : w.heap.size + 2 < w1.heap.size := lt_of_block HX1.out.2.2
  have HQ := Lib.hid (idx70 110 #[.pointer (some ⟨w.heap.size + 1, 0, none⟩)] enters110 (fun x => x.f1.toList == n.toList) Au cu ts (w2.alloc (.cells #[.int .i64 v, .slice Au ts.length cu, .int .i64 nx] 28)) hC3 (pred110 n (w.heap.size + 1) _ (lt_of_block hX3.2.1) (blk_cell hX3.2.1 rfl)))
  rw [tName_same] at HQ
  have HY3 := Aside0.mk (heap_alloc_new w2 (.cells #[.int .i64 v, .slice Au ts.length cu, .int .i64 nx] 28))
  have hia := idxL_at (tName n) ts
  obtain ⟨ix, hix⟩ : ∃ ix, idxL (tName n) ts 0 = ix := ⟨_, rfl⟩
  rw [hix] at HQ HE hia
  have hmf : ∀ (fn : Fn) (first cap : Array Value) (w : World), (Instr.makeFunc fn first cap).run Tryd.prog w = .ok (.func fn first cap) w := fun _ _ _ _ => rfl
  clear hS hb2 hX2 hba hX3 hC3 hCu hix x0 x1 x2
  go_wp2_with fail
  refine HQ.out.mono ?_
  rintro e w4 ⟨rfl, hb4⟩
  have hX1 := HX3.out.step hb4
  have HB4 := Aside0.mk (below_then HB3.out HB3.out.size hb4)
  have HC4 := Aside0.mk (Kd.C_below HC3.out hb4)
  have hy4 := blk_below HY3.out hb4
  have y1 := blk_cell (j := 1) (v := .slice Au ts.length cu) hy4 rfl
  have f0 := blk_frozen hX1.2.2 0
  have c0 := blk_cell (j := 0) (v := .int .i64 0) hX1.2.2 rfl
  have f1 := blk_frozen hX1.2.2 1
  have c1 := blk_cell (j := 1) (v := .string ⟨#[]⟩) hX1.2.2 rfl
  have f2 := blk_frozen hX1.2.2 2
  have c2 := blk_cell (j := 2) (v := .slice none 0 0) hX1.2.2 rfl
  have f3 := blk_frozen hX1.2.2 3
  have c3 := blk_cell (j := 3) (v := .slice none 0 0) hX1.2.2 rfl
  have f4 := blk_frozen hX1.2.2 4
  have c4 := blk_cell (j := 4) (v := .int .i64 0) hX1.2.2 rfl
  have hl : w.heap.size ≤ w.heap.size + 1 + 1 := by omega
  rcases hia with rfl | ⟨k, hk, rfl, -⟩
  · clear hb4 hX1 hy4
    go_wp2
    refine bodyPost_ret (v := .tuple #[.agg #[.int .i64 0, .string ⟨#[]⟩, .slice none 0 0, .slice none 0 0, .int .i64 0], .bool false]) (by simp [results, Tryd.results54, go_sem, c0, c1, c2, c3, c4]) rfl ?_
    exact ⟨((((HB4.out.setCell hl _).setCell hl _).setCell hl _).setCell hl _).setCell hl _, .inl ⟨HE.out, rfl⟩⟩
  · have hk0 : (0 : Int) ≤ (k : Int) := by omega
    have hkl : (k : Int) < (ts.length : Int) := by omega
    have hS4 := Kd.S_below HSS3.out hb4
    obtain ⟨g, cap', hgv, hgb, -⟩ := Kd.S_form hS4 (by omega)
    obtain rfl : Au = some ⟨g, 0, none⟩ := by injection hgv
    have hgne : g ≠ w.heap.size + 2 := by omega
    obtain ⟨ad, A2, c2', A3, c3', eA, t0, t1, t2, t3, t4, l2, g2, l3, g3⟩ := at_T70 HC4.out (k : Int) (by omega) (by omega)
    rw [rd70 _ _ hk] at t0 t1 t2 t3 t4 l2 g2 l3 g3
    simp only [Int.toNat_natCast] at t0 t1 t2 t3 t4
    obtain rfl : ad = ⟨g, 0, none⟩ := by injection eA with e; exact e.symm
    rw [add_plain] at t0 t1 t2 t3 t4
    have hb5 := (((((HB4.out.setCell (p := ⟨w.heap.size + 2, 0, none⟩) hl (.int .i64 ts[k].f0)).setCell (p := ⟨w.heap.size + 2, 1, none⟩) hl (.string ts[k].f1)).setCell (p := ⟨w.heap.size + 2, 2, none⟩) hl (.slice A2 ts[k].f2.length c2')).setCell (p := ⟨w.heap.size + 2, 3, none⟩) hl (.slice A3 ts[k].f3.length c3')).setCell (p := ⟨w.heap.size + 2, 4, none⟩) hl (.int .i64 ts[k].f4))
    have hS5 := S_farB (j := 4) (u := .int .i64 ts[k].f4) (S_farB (j := 3) (u := .slice A3 ts[k].f3.length c3') (S_farB (j := 2) (u := .slice A2 ts[k].f2.length c2') (S_farB (j := 1) (u := .string ts[k].f1) (S_farB (j := 0) (u := .int .i64 ts[k].f0) hS4 hlt1) hlt1) hlt1) hlt1) hlt1
    have hK5 : k70.K ((((((w4.setCell ⟨w.heap.size + 2, 0, none⟩ (.int .i64 ts[k].f0)).setCell ⟨w.heap.size + 2, 1, none⟩ (.string ts[k].f1)).setCell ⟨w.heap.size + 2, 2, none⟩ (.slice A2 ts[k].f2.length c2')).setCell ⟨w.heap.size + 2, 3, none⟩ (.slice A3 ts[k].f3.length c3')).setCell ⟨w.heap.size + 2, 4, none⟩ (.int .i64 ts[k].f4))) ts[k] [.int .i64 ts[k].f0, .string ts[k].f1, .slice A2 ts[k].f2.length c2', .slice A3 ts[k].f3.length c3', .int .i64 ts[k].f4] := by
      obtain ⟨ad', B2, d2, B3, d3, eA', s0, s1, s2, s3, s4, m2, n2, m3, n3⟩ := at_T70 (Kd.S_reads' hS5).2.2 (k : Int) (by omega) (by omega)
      rw [rd70 _ _ hk] at s0 s1 s2 s3 s4 m2 n2 m3 n3
      simp only [Int.toNat_natCast] at s0 s1 s2 s3 s4
      obtain rfl : ad' = ⟨g, 0, none⟩ := by injection eA' with e; exact e.symm
      rw [add_plain] at s2 s3
      rw [cell_farB hgne, cell_farB hgne, cell_farB hgne, cell_farB hgne, cell_farB hgne, t2] at s2
      rw [cell_farB hgne, cell_farB hgne, cell_farB hgne, cell_farB hgne, cell_farB hgne, t3] at s3
      injection s2 with s2
      injection s2 with e1 _ e2
      injection s3 with s3
      injection s3 with e3 _ e4
      subst e1 e2 e3 e4
      exact k70_mk _ ts[k] m2 n2 m3 n3
    have HFIN := Aside0.mk (And.intro hb5 hK5)
    have HX4 := Aside0.mk hX1.2.2
    clear hb4 hX1 hy4 g2 g3 hS4 hb5 hS5 hK5 hgv
    go_wp2
    refine bodyPost_ret (v := .tuple #[.agg #[.int .i64 ts[k].f0, .string ts[k].f1, .slice A2 ts[k].f2.length c2', .slice A3 ts[k].f3.length c3', .int .i64 ts[k].f4], .bool true]) (by simp [results, Tryd.results54, go_sem, c0, c1, c2, c3, c4]) rfl ?_
    exact ⟨HFIN.out.1, .inr ⟨k, hk, HE.out, _, rfl, HFIN.out.2⟩⟩
end Go.Proofs.YtjgomlcdmpcoaaaDoor.H
