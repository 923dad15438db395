/- Own texts of this session, packed by its program wip/pp/pack.py: lemmas and walks of functions. -/
import Derived.Test.YtjgomlcdmpcoaaaDoorKNexts1
import Derived.Test.YtjgomlcdmpcoaaaDoorKNexts6
import Derived.Test.YtjgomlcdmpcoaaaDoorKNexts8
namespace Go.Proofs.YtjgomlcdmpcoaaaDoor.H
open Go.RowKit Go.Proofs.YtjgomlcdmpcoaaaDoorW.PrintWords Go.Proofs.YtjgomlcdmpcoaaaDoorW.PrintLast Go.Proofs.YtjgomlcdmpcoaaaDoorW.PrintMore
open Go.Proofs.YtjgomlcdmpcoaaaDoor.D Go.Proofs.YtjgomlcdmpcoaaaDoor
set_option linter.unusedVariables false
set_option linter.unusedSimpArgs false
theorem enters174 (args : Array Value) (w : World) : (callFunc 174 args).run Tryd.prog w = .ok (.enter 174 args) w := enters Tryd.func174 (by kernel_rfl) rfl args w
theorem enters180 (args : Array Value) (w : World) : (callFunc 180 args).run Tryd.prog w = .ok (.enter 180 args) w := enters Tryd.func180 (by kernel_rfl) rfl args w
theorem enters149 (args : Array Value) (w : World) : (callFunc 149 args).run Tryd.prog w = .ok (.enter 149 args) w := enters Tryd.func149 (by kernel_rfl) rfl args w
set_option maxRecDepth 100000 in
set_option maxHeartbeats 4000000 in
theorem indexOf_no (E : Nat) (pa : Addr) (sp : Value) (at0 : Int) (ix0 rl0 : Bool) (xs : List S98) (A : Option Addr) (c : Nat) (id : Int) (w : World) (hE : w.heap[E]? = some (.cells #[.pointer (some pa), sp, .int .i64 at0, .bool ix0, .bool rl0] 148 (0, 0)))
    (hp : w.cell? ⟨pa.block, pa.off + 3, none⟩ = some (.slice A xs.length c)) (hC : k98.C w A xs.length xs) (hpE : pa.block ≠ E) (hk : idxL (xId id) xs 0 = -1) :
    Calls Tryd.prog 146 #[.pointer (some ⟨E, 0, none⟩), .int .i64 id] w fun e w' => e = .returned (.bool false) ∧ Below E w w' := by
  have hEl := blk_lt hE
  have HX := Aside0.mk (blk_alloc hE (.cells #[.int .i64 id] 3))
  have hmf : ∀ (fn : Fn) (first cap : Array Value) (w : World), (Instr.makeFunc fn first cap).run Tryd.prog w = .ok (.func fn first cap) w := fun _ _ _ _ => rfl
  have e0 := blk_cell (j := 0) (v := .pointer (some pa)) hE rfl
  have HQ := Lib.hid (idx98 174 #[.pointer (some ⟨w.heap.size, 0, none⟩)] enters174 (fun x => x.f0 == id) A c xs (w.alloc (.cells #[.int .i64 id] 3)) (Kd.C_below hC (below_alloc (Below.refl _ _) _)) (pred174 id w.heap.size _ (by simp) (blk_cell (heap_alloc_new w (.cells #[.int .i64 id] 3)) rfl)))
  rw [idxL_same (fun x : S98 => x.f0 == id) (xId id) (fun x => by unfold xId; rfl), hk] at HQ
  have hl := World.block_lt_of_cell? w _ hp
  clear hC hk
  go_enter Tryd.func146, Tryd.ntmps146
  go_wp2_with fail
  refine HQ.out.mono ?_
  rintro e w1 ⟨rfl, hb1⟩
  have hx1 := blk_below HX.out hb1
  have c2 := blk_cell (j := 2) (v := .int .i64 at0) hx1 rfl
  have f2 := blk_frozen hx1 2
  have hbb : Below E w (w1.setCell ⟨E, 2, none⟩ (.int .i64 (-1))) := Below.setCell (p := ⟨E, 2, none⟩) (((below_alloc (Below.refl _ w) (.cells #[.int .i64 id] 3)).trans (hb1.mono (by simp))).mono (Nat.le_of_lt hEl)) (Nat.le_refl _) _
  have HB := Aside0.mk hbb
  clear hx1 hbb hb1 e0 hE
  go_wp2
  go_ret
  exact ⟨rfl, HB.out⟩
def ElemOk (E : Nat) (pa : Addr) (st : Addr) (k : Nat) (ix rl : Bool) (w : World) : Prop := w.heap[E]? = some (.cells #[.pointer (some pa), .pointer (some st), .int .i64 k, .bool ix, .bool rl] 148 (0, 0))
set_option maxRecDepth 100000 in
set_option maxHeartbeats 4000000 in
theorem indexOf_yes (E : Nat) (pa : Addr) (sp : Value) (at0 : Int) (ix0 rl0 : Bool) (xs : List S98) (ad : Addr) (c : Nat) (id : Int) (k : Nat) (w : World) (hE : w.heap[E]? = some (.cells #[.pointer (some pa), sp, .int .i64 at0, .bool ix0, .bool rl0] 148 (0, 0))) (hsp : sp = .pointer none)
    (hp : w.cell? ⟨pa.block, pa.off + 3, none⟩ = some (.slice (some ad) xs.length c)) (hC : k98.C w (some ad) xs.length xs) (hpE : pa.block ≠ E) (hk : idxL (xId id) xs 0 = (k : Int)) (hkl : k < xs.length) :
    Calls Tryd.prog 146 #[.pointer (some ⟨E, 0, none⟩), .int .i64 id] w fun e w' => e = .returned (.bool true) ∧ Below E w w' ∧ ElemOk E pa ⟨(ad.add (k * 5)).block, (ad.add (k * 5)).off + 4, none⟩ k true rl0 w' := by
  obtain ⟨A, hA⟩ : ∃ A, A = some ad := ⟨_, rfl⟩
  rw [← hA] at hp hC
  have hEl := blk_lt hE
  have HX := Aside0.mk (blk_alloc hE (.cells #[.int .i64 id] 3))
  have hmf : ∀ (fn : Fn) (first cap : Array Value) (w : World), (Instr.makeFunc fn first cap).run Tryd.prog w = .ok (.func fn first cap) w := fun _ _ _ _ => rfl
  have e0 := blk_cell (j := 0) (v := .pointer (some pa)) hE rfl
  have HQ := Lib.hid (idx98 174 #[.pointer (some ⟨w.heap.size, 0, none⟩)] enters174 (fun x => x.f0 == id) A c xs (w.alloc (.cells #[.int .i64 id] 3)) (Kd.C_below hC (below_alloc (Below.refl _ _) _)) (pred174 id w.heap.size _ (by simp) (blk_cell (heap_alloc_new w (.cells #[.int .i64 id] 3)) rfl)))
  rw [idxL_same (fun x : S98 => x.f0 == id) (xId id) (fun x => by unfold xId; rfl), hk] at HQ
  have hl := World.block_lt_of_cell? w _ hp
  rw [hA] at HQ hp
  have hki : (k : Int) < (xs.length : Int) := by omega
  have hk0 : (0 : Int) ≤ (k : Int) := by omega
  subst hsp
  clear hC hk hA
  go_enter Tryd.func146, Tryd.ntmps146
  go_wp2_with fail
  refine HQ.out.mono ?_
  rintro e w1 ⟨rfl, hb1⟩
  have hx1 := blk_below HX.out hb1
  have c2 := blk_cell (j := 2) (v := .int .i64 at0) hx1 rfl
  have f2 := blk_frozen hx1 2
  have HB := Aside0.mk (((below_alloc (Below.refl _ w) (.cells #[.int .i64 id] 3)).trans (hb1.mono (by simp))).mono (Nat.le_of_lt hEl) : Below E w w1)
  have hp1 := pw_cell_below (below_then (below_alloc (Below.refl _ w) (.cells #[.int .i64 id] 3)) (by simp) hb1) hp
  have HX1 := Aside0.mk hx1
  clear hx1 hb1 e0 hE hp
  go_wp2_with fail
  have hx2 := blk_put HX1.out 2 (.int .i64 (k : Int)) rfl
  have hp2 : (w1.setCell ⟨E, 2, none⟩ (.int .i64 (k : Int))).cell? ⟨pa.block, pa.off + 3, none⟩ = some (.slice (some ad) xs.length c) := by
    rw [← hp1]; exact cell_same (Below.heap_setCell _ _ _ _ hpE)
  have HB2 := Aside0.mk (HB.out.setCell (p := ⟨E, 2, none⟩) (Nat.le_refl _) (.int .i64 (k : Int)))
  clear c2 f2 hp1 HX1 HB HX
  generalize w1.setCell ⟨E, 2, none⟩ (.int .i64 (k : Int)) = w2 at hx2 hp2 HB2 ⊢
  have c0 := blk_cell (j := 0) (v := .pointer (some pa)) hx2 rfl
  have c1 := blk_cell (j := 1) (v := .pointer none) hx2 rfl
  have c2 := blk_cell (j := 2) (v := .int .i64 (k : Int)) hx2 rfl
  have c3 := blk_cell (j := 3) (v := .bool ix0) hx2 rfl
  have f1 := blk_frozen hx2 1
  have f3 := blk_frozen hx2 3
  have hpE' : ¬ E = pa.block := Ne.symm hpE
  have HX2 := Aside0.mk hx2
  clear hx2
  go_region
  all_goals
    go_wp2
    go_ret
    exact ⟨rfl, below_drew ((HB2.out.setCell (p := ⟨E, 1, none⟩) (Nat.le_refl _) _).setCell (p := ⟨E, 3, none⟩) (Nat.le_refl _) _), blk_put (blk_put HX2.out 1 _ rfl) 3 _ rfl⟩
theorem eql_f146 (w : World) : (binOp BinOp.eql 176 (Value.func (Fn.func 146) #[] #[]) Value.nilFunc).run Tryd.prog w = .ok (.bool false) w := by kernel_rfl
theorem enters146 (args : Array Value) (w : World) : (callFunc 146 args).run Tryd.prog w = .ok (.enter 146 args) w := enters Tryd.func146 (by kernel_rfl) rfl args w
set_option maxRecDepth 100000 in
set_option maxHeartbeats 4000000 in
theorem find6_yes (X : Nat) (v nx kind table elem : Int) (ts : List S70) (ad : Addr) (c i k : Nat) (w : World) (hkd : finder kind = .func (.func 146) #[] #[]) (hX : w.heap[X]? = some (.cells #[.int .i64 v, .slice (some ad) ts.length c, .int .i64 nx] 28 (0, 0))) (hC : k70.C w (some ad) ts.length ts)
    (hi : idxL (tId table) ts 0 = (i : Int)) (hil : i < ts.length) (hk : idxL (xId elem) ts[i].f3 0 = (k : Int)) (hkl : k < ts[i].f3.length) :
    Calls Tryd.prog 107 #[.pointer (some ⟨X, 0, none⟩), .int .i64 kind, .int .i64 table, .int .i64 elem] w fun e w' => ∃ E a3, e = .returned (.tuple #[.pointer (some ⟨E, 0, none⟩), .bool true]) ∧ Below w.heap.size w w' ∧
      ElemOk E (ad.add (i * 5)) ⟨(Addr.add a3 (k * 5)).block, (Addr.add a3 (k * 5)).off + 4, none⟩ k true false w' ∧ w'.cell? ⟨(Addr.add a3 (k * 5)).block, (Addr.add a3 (k * 5)).off + 4, none⟩ = some (.int .i64 ts[i].f3[k].f4) := by
  have hXl := blk_lt hX
  obtain ⟨W0, hW0⟩ : ∃ W0, W0 = (w.alloc (.cells #[.int .i64 table] 3)).alloc (.map #[] 0) := ⟨_, rfl⟩
  have hB0 : Below w.heap.size w W0 := by rw [hW0]; exact below_alloc (below_alloc (Below.refl _ _) _) _
  have hm0 : W0.heap[w.heap.size + 1]? = some (.map #[] 0) := by
    have := heap_alloc_new (w.alloc (.cells #[.int .i64 table] 3)) (.map #[] 0)
    rw [hW0]
    simpa using this
  have ht0 : W0.heap[w.heap.size]? = some (.cells #[.int .i64 table] 3 (0, 0)) := by rw [hW0]; exact blk_alloc (heap_alloc_new w _) _
  obtain ⟨W1, W2, W3, W4, W5, W6, i1, i2, i3, i4, i5, i6, hm6, hg6⟩ := finds_made W0 (w.heap.size + 1) hm0
  have hB6 : Below w.heap.size w W6 := hB0.grown hg6 hB0.size (fun k hk => by injection hk with hk; omega)
  have ht6 : W6.heap[w.heap.size]? = some (.cells #[.int .i64 table] 3 (0, 0)) := (hg6.block _ (blk_lt ht0) (fun e => by injection e with e; omega)).trans ht0
  have hlook := finds_look hm6 kind
  rw [hkd] at hlook
  have hx6 := blk_below hX hB6
  have x1 := blk_cell (j := 1) (v := .slice (some ad) ts.length c) hx6 rfl
  have HQ := Lib.hid (idx70 149 #[.pointer (some ⟨w.heap.size, 0, none⟩)] enters149 (fun x => x.f0 == table) (some ad) c ts W6 (Kd.C_below hC hB6) (pred149 table w.heap.size W6 (blk_lt ht6) (blk_cell ht6 rfl)))
  rw [idxL_same (fun x : S70 => x.f0 == table) (tId table) (fun x => by unfold tId; rfl), hi] at HQ
  have hmm := @run_makeMap Tryd.prog
  have hmf : ∀ (fn : Fn) (first cap : Array Value) (w : World), (Instr.makeFunc fn first cap).run Tryd.prog w = .ok (.func fn first cap) w := fun _ _ _ _ => rfl
  have hii : (i : Int) < (ts.length : Int) := by omega
  have hi0 : (0 : Int) ≤ (i : Int) := by omega
  have HC := Aside0.mk hC
  have HB6 := Aside0.mk hB6
  have HX6 := Aside0.mk hx6
  rw [hW0] at i1
  clear hC hX hi hB0 hm0 ht0 hm6 hg6 hB6 ht6 hx6 hkd
  clear hW0
  go_enter Tryd.func107, Tryd.ntmps107
  have HE := Lib.hid enters146
  go_wp2_with fail
  refine HQ.out.mono ?_
  rintro e w7 ⟨rfl, hb7⟩
  have hx7 := blk_below HX6.out hb7
  have HX7 := Aside0.mk hx7
  have HB7 := Aside0.mk (below_then HB6.out HB6.out.size hb7)
  have x1' := blk_cell (j := 1) (v := .slice (some ad) ts.length c) hx7 rfl
  clear hb7 hx7 x1 i1 i2 i3 i4 i5 i6 hlook HX6 HB6 HQ
  have heq := eql_f146
  go_wp2_with fail
  have hB8 := below_then HB7.out HB7.out.size (below_alloc (Below.refl _ w7) (.cells #[.pointer (some (ad.add (i * 5))), .pointer none, .int .i64 0, .bool false, .bool false] 148))
  obtain ⟨ad', A2, c2, A3, c3, eA, h0, -, -, h3, -, -, -, hd3, hinds⟩ := at_T70 HC.out (i : Int) (by omega) (by omega)
  rw [rd70 _ _ hil] at h0 h3 hd3 hinds
  simp only [Int.toNat_natCast] at h0 h3
  obtain rfl : ad = ad' := by injection eA
  obtain ⟨a3, A5, c5, eA3, -, -, -, -, e4, -, -⟩ := at_T98 hinds (k : Int) (by omega) (by omega)
  rw [rd98 _ _ hkl] at e4
  simp only [Int.toNat_natCast] at e4
  subst eA3
  have hlt := World.block_lt_of_cell? w _ h0
  have hpE : (ad.add (i * 5)).block ≠ w7.heap.size := by have := HB7.out.size; omega
  refine (indexOf_yes w7.heap.size (ad.add (i * 5)) (.pointer none) 0 false false ts[i].f3 a3 c3 elem k _ (heap_alloc_new w7 _) rfl (pw_cell_below hB8 h3) (Kd.C_below hinds hB8) hpE hk hkl).mono ?_
  rintro e w9 ⟨rfl, hb9, hel⟩
  have hB9 := HB7.out.trans (show Below w.heap.size w7 w9 from ((below_alloc (Below.refl _ w7) _).trans hb9).mono HB7.out.size)
  have HF := Aside0.mk (And.intro hB9 (And.intro hel (pw_cell_below hB9 e4)))
  clear hb9 hel hB9 hB8 h0 h3 e4 hinds eA heq x1' hmm hmf
  go_wp2
  go_ret2
  exact ⟨w7.heap.size, a3, rfl, HF.out.1, HF.out.2.1, HF.out.2.2⟩
end Go.Proofs.YtjgomlcdmpcoaaaDoor.H
namespace Go.Proofs.YtjgomlcdmpcoaaaDoor.D
open Go.RowKit Go.Proofs.YtjgomlcdmpcoaaaDoorW.PrintWords Go.Proofs.YtjgomlcdmpcoaaaDoorW.PrintLast Go.Proofs.YtjgomlcdmpcoaaaDoorW.PrintMore
attribute [local go_sem] max2_int min2_int max_two min_two max_three min_three max_four min_four
set_option linter.unusedVariables false
set_option linter.unusedSimpArgs false
def job_id.f (a0 : Int) : Option (Bool) := if a0 ≥ 1 then (some (decide (a0 ≤ 60000))) else (some false)
set_option maxHeartbeats 8000000 in
set_option maxRecDepth 100000 in
theorem job_id.calls (a0 : Int) (r : Bool) (w : World) (h : job_id.f a0 = some r) :
  Calls Tryd.prog 60 #[.int .i64 a0] w fun e w' => e = .returned (.bool r) ∧ Drawn0 w w' := by
 have H : (if a0 ≥ 1 then (some (decide (a0 ≤ 60000))) else (some false)) = some r := h
 clear h; by_cases c2 : a0 ≥ 1
 ·rw [if_pos c2] at H
  have c2b0 : decide (1 ≤ a0) = true := decide_eq_true c2
  clear c2; obtain rfl := Option.some.inj H; go_enter Tryd.func60, Tryd.ntmps60
  go_wp2; go_ret; exact ⟨by first | rfl | (simp; done) | (simp [*]; done), by repeat (first | exact Drawn0.refl _ | apply Drawn0.step)⟩
 ·rw [if_neg c2] at H
  have c2b0 : decide (1 ≤ a0) = false := decide_eq_false c2
  clear c2; obtain rfl := Option.some.inj H; go_enter Tryd.func60, Tryd.ntmps60
  go_wp2; go_ret; exact ⟨by first | rfl | (simp; done) | (simp [*]; done), by repeat (first | exact Drawn0.refl _ | apply Drawn0.step)⟩
end Go.Proofs.YtjgomlcdmpcoaaaDoor.D
namespace Go.Proofs.YtjgomlcdmpcoaaaDoor.D
open Go.RowKit Go.Proofs.YtjgomlcdmpcoaaaDoorW.PrintWords Go.Proofs.YtjgomlcdmpcoaaaDoorW.PrintLast Go.Proofs.YtjgomlcdmpcoaaaDoorW.PrintMore
attribute [local go_sem] max2_int min2_int max_two min_two max_three min_three max_four min_four
set_option linter.unusedVariables false
set_option linter.unusedSimpArgs false
def job_May.f (a0_0 : Int) (a0_1 : Int) (a0_2 : Int) (a0_3 : Int) (a0_4 : Int) (a0_5 : Bool) (a0_6 : ByteArray) (a0_7 : Bool) : Option (Bool) := if a0_0 ≥ 1 then (if a0_0 < 1099511627776 then (if a0_1 ≥ 6 then (if a0_1 ≤ 11 then ((job_id.f a0_2).bind fun t102 => (if t102 = true then ((job_id.f a0_3).bind fun t103 => (if t103 = true then (if a0_4 ≥ 1 then (if a0_4 ≤ 4 then (if (a0_6.size : Int) ≤ 1001 then (if a0_7 = true then (if a0_4 = 2 then (some true) else (some (a0_4 == 4))) else (some true)) else (some false)) else (some false)) else (some false)) else (some false))) else (some false))) else (some false)) else (some false)) else (some false)) else (some false)
set_option maxHeartbeats 8000000 in
set_option maxRecDepth 100000 in
theorem job_May.calls (a0_0 : Int) (a0_1 : Int) (a0_2 : Int) (a0_3 : Int) (a0_4 : Int) (a0_5 : Bool) (a0_6 : ByteArray) (a0_7 : Bool) (r : Bool) (w : World) (h : job_May.f a0_0 a0_1 a0_2 a0_3 a0_4 a0_5 a0_6 a0_7 = some r) :
  Calls Tryd.prog 22 #[.agg #[.int .i64 a0_0, .int .i64 a0_1, .int .i64 a0_2, .int .i64 a0_3, .int .i64 a0_4, .bool a0_5, .string a0_6, .bool a0_7]] w fun e w' => e = .returned (.bool r) ∧ Below w.heap.size w w' := by
 have hu23 := Tryd.underlying23
 have HB := Aside0.mk (Below.refl w.heap.size w)
 have H : (if a0_0 ≥ 1 then (if a0_0 < 1099511627776 then (if a0_1 ≥ 6 then (if a0_1 ≤ 11 then ((job_id.f a0_2).bind fun t102 => (if t102 = true then ((job_id.f a0_3).bind fun t103 => (if t103 = true then (if a0_4 ≥ 1 then (if a0_4 ≤ 4 then (if (a0_6.size : Int) ≤ 1001 then (if a0_7 = true then (if a0_4 = 2 then (some true) else (some (a0_4 == 4))) else (some true)) else (some false)) else (some false)) else (some false)) else (some false))) else (some false))) else (some false)) else (some false)) else (some false)) else (some false)) = some r := h
 clear h; by_cases c2 : a0_0 ≥ 1
 ·rw [if_pos c2] at H
  have c2b0 : decide (1 ≤ a0_0) = true := decide_eq_true c2
  clear c2; by_cases c3 : a0_0 < 1099511627776
  ·rw [if_pos c3] at H
   have c3b0 : decide (a0_0 < 1099511627776) = true := decide_eq_true c3
   clear c3; by_cases c4 : a0_1 ≥ 6
   ·rw [if_pos c4] at H
    have c4b0 : decide (6 ≤ a0_1) = true := decide_eq_true c4
    clear c4; by_cases c5 : a0_1 ≤ 11
    ·rw [if_pos c5] at H
     have c5b0 : decide (a0_1 ≤ 11) = true := decide_eq_true c5
     clear c5; replace H := Option.bind_eq_some_iff.mp H; obtain ⟨t102, A60, H⟩ := H
     replace H : (if t102 = true then ((job_id.f a0_3).bind fun t103 => (if t103 = true then (if a0_4 ≥ 1 then (if a0_4 ≤ 4 then (if (a0_6.size : Int) ≤ 1001 then (if a0_7 = true then (if a0_4 = 2 then (some true) else (some (a0_4 == 4))) else (some true)) else (some false)) else (some false)) else (some false)) else (some false))) else (some false)) = some r := H
     have A6 := Aside0.mk A60; clear A60; by_cases c7 : t102 = true
     ·subst c7
      have H1 : ((job_id.f a0_3).bind fun t103 => (if t103 = true then (if a0_4 ≥ 1 then (if a0_4 ≤ 4 then (if (a0_6.size : Int) ≤ 1001 then (if a0_7 = true then (if a0_4 = 2 then (some true) else (some (a0_4 == 4))) else (some true)) else (some false)) else (some false)) else (some false)) else (some false))) = some r := by rw [if_pos rfl] at H; exact H
      clear H; have H := H1; clear H1; replace H := Option.bind_eq_some_iff.mp H; obtain ⟨t103, A80, H⟩ := H
      replace H : (if t103 = true then (if a0_4 ≥ 1 then (if a0_4 ≤ 4 then (if (a0_6.size : Int) ≤ 1001 then (if a0_7 = true then (if a0_4 = 2 then (some true) else (some (a0_4 == 4))) else (some true)) else (some false)) else (some false)) else (some false)) else (some false)) = some r := H
      have A8 := Aside0.mk A80; clear A80; by_cases c9 : t103 = true
      ·subst c9
       have H1 : (if a0_4 ≥ 1 then (if a0_4 ≤ 4 then (if (a0_6.size : Int) ≤ 1001 then (if a0_7 = true then (if a0_4 = 2 then (some true) else (some (a0_4 == 4))) else (some true)) else (some false)) else (some false)) else (some false)) = some r := by rw [if_pos rfl] at H; exact H
       clear H; have H := H1; clear H1; by_cases c10 : a0_4 ≥ 1
       ·rw [if_pos c10] at H
        have c10b0 : decide (1 ≤ a0_4) = true := decide_eq_true c10
        clear c10; by_cases c11 : a0_4 ≤ 4
        ·rw [if_pos c11] at H
         have c11b0 : decide (a0_4 ≤ 4) = true := decide_eq_true c11
         clear c11; by_cases c12 : (a0_6.size : Int) ≤ 1001
         ·rw [if_pos c12] at H
          have c12b0 : decide ((a0_6.size : Int) ≤ 1001) = true := decide_eq_true c12
          have c12b1 : decide (a0_6.size ≤ 1001) = true := decide_eq_true (by omega)
          clear c12; by_cases c13 : a0_7 = true
          ·subst c13
           have H1 : (if a0_4 = 2 then (some true) else (some (a0_4 == 4))) = some r := by rw [if_pos rfl] at H; exact H
           clear H; have H := H1; clear H1; by_cases c14 : a0_4 = 2
           ·rw [if_pos c14] at H
            have c14b0 : (a0_4 == 2) = true := beq_iff_eq.mpr c14
            have c14b1 : (a0_4 != 2) = false := bne_eq_false_iff_eq.mpr c14
            clear c14; obtain rfl := Option.some.inj H; go_enter Tryd.func22, Tryd.ntmps22
            go_wp2_with (first | ((with_reducible refine gate_dst (N := 1) rfl ?_); (try (refine gate_guard (by rfl) ?_; dsimp only)); refine box_event ?hg (N := 1) ?hd (cs := #[.int .i64 a0_0, .int .i64 a0_1, .int .i64 a0_2, .int .i64 a0_3, .int .i64 a0_4, .bool a0_5, .string a0_6, .bool true]) (t := 23) ?hr ?_; (case hd => rfl); (case hg => rfl); (case hr => first | (go_simp; done) | (go_simp; rfl)); intro gb101 hg w15 hbox hb; have n0_ := Aside0.mk (below_step (by repeat (first | (with_reducible first | exact HB.out | apply below_alloc | apply pw_below_drewN | apply below_drew1) | exact HB.out)) hb); have n1_ := Aside0.mk (hbox); have n2_ := Aside0.mk ((by rw [hg]; exact (below_size (by repeat (first | (with_reducible first | exact HB.out | apply below_alloc | apply pw_below_drewN | apply below_drew1) | exact HB.out))) : w.heap.size ≤ gb101)); have n3_ := Aside0.mk ((by rw [hg]; exact (below_size (by repeat (first | (with_reducible first | exact HB.out | apply below_alloc | apply pw_below_drewN | apply below_drew1) | exact HB.out))) : w.heap.size ≤ gb101)); clear HB; have HB := n0_; have BK101 := n1_; have GW101 := n2_; have GE101 := n3_; clear n0_ n1_ n2_ n3_; clear hb hbox hg; have hcz16_0 : w15.cell? ⟨gb101, 0, none⟩ = some (.int .i64 a0_0) := (Go.Proofs.YtjgomlcdmpcoaaaDoorW.PrintWords.blk_cell BK101.out 0).trans rfl; have hcz16_1 : w15.cell? ⟨gb101, 1, none⟩ = some (.int .i64 a0_1) := (Go.Proofs.YtjgomlcdmpcoaaaDoorW.PrintWords.blk_cell BK101.out 1).trans rfl; have hcz16_2 : w15.cell? ⟨gb101, 2, none⟩ = some (.int .i64 a0_2) := (Go.Proofs.YtjgomlcdmpcoaaaDoorW.PrintWords.blk_cell BK101.out 2).trans rfl; have hcz16_3 : w15.cell? ⟨gb101, 3, none⟩ = some (.int .i64 a0_3) := (Go.Proofs.YtjgomlcdmpcoaaaDoorW.PrintWords.blk_cell BK101.out 3).trans rfl; have hcz16_4 : w15.cell? ⟨gb101, 4, none⟩ = some (.int .i64 a0_4) := (Go.Proofs.YtjgomlcdmpcoaaaDoorW.PrintWords.blk_cell BK101.out 4).trans rfl; have hcz16_5 : w15.cell? ⟨gb101, 5, none⟩ = some (.bool a0_5) := (Go.Proofs.YtjgomlcdmpcoaaaDoorW.PrintWords.blk_cell BK101.out 5).trans rfl; have hcz16_6 : w15.cell? ⟨gb101, 6, none⟩ = some (.string a0_6) := (Go.Proofs.YtjgomlcdmpcoaaaDoorW.PrintWords.blk_cell BK101.out 6).trans rfl; have hcz16_7 : w15.cell? ⟨gb101, 7, none⟩ = some (.bool true) := (Go.Proofs.YtjgomlcdmpcoaaaDoorW.PrintWords.blk_cell BK101.out 7).trans rfl; have hfz16_0 := blk_frozen BK101.out 0; have hfz16_1 := blk_frozen BK101.out 1; have hfz16_2 := blk_frozen BK101.out 2; have hfz16_3 := blk_frozen BK101.out 3; have hfz16_4 := blk_frozen BK101.out 4; have hfz16_5 := blk_frozen BK101.out 5; have hfz16_6 := blk_frozen BK101.out 6; have hfz16_7 := blk_frozen BK101.out 7) | (go_at_call 60; (with_reducible refine (job_id.calls a0_2 true _ A6.out).mono ?_); rintro e w' ⟨rfl, ⟨nd, rfl⟩⟩) | (go_at_call 60; (with_reducible refine (job_id.calls a0_3 true _ A8.out).mono ?_); rintro e w' ⟨rfl, ⟨nd, rfl⟩⟩))
            go_ret; exact ⟨by first | rfl | (simp [errW_none, errW_some] <;> rfl) | (simp [*, errW_none, errW_some] <;> rfl), by repeat (first | (with_reducible first | exact HB.out | apply below_alloc | apply pw_below_drewN | apply below_drew1 | refine below_set ?_ GE101.out) | exact HB.out)⟩
           ·rw [if_neg c14] at H
            have c14b0 : (a0_4 == 2) = false := beq_eq_false_iff_ne.mpr c14
            have c14b1 : (a0_4 != 2) = true := bne_iff_ne.mpr c14
            obtain rfl := Option.some.inj H; go_enter Tryd.func22, Tryd.ntmps22
            go_wp2_with (first | ((with_reducible refine gate_dst (N := 1) rfl ?_); (try (refine gate_guard (by rfl) ?_; dsimp only)); refine box_event ?hg (N := 1) ?hd (cs := #[.int .i64 a0_0, .int .i64 a0_1, .int .i64 a0_2, .int .i64 a0_3, .int .i64 a0_4, .bool a0_5, .string a0_6, .bool true]) (t := 23) ?hr ?_; (case hd => rfl); (case hg => rfl); (case hr => first | (go_simp; done) | (go_simp; rfl)); intro gb101 hg w17 hbox hb; have n0_ := Aside0.mk (below_step (by repeat (first | (with_reducible first | exact HB.out | apply below_alloc | apply pw_below_drewN | apply below_drew1) | exact HB.out)) hb); have n1_ := Aside0.mk (hbox); have n2_ := Aside0.mk ((by rw [hg]; exact (below_size (by repeat (first | (with_reducible first | exact HB.out | apply below_alloc | apply pw_below_drewN | apply below_drew1) | exact HB.out))) : w.heap.size ≤ gb101)); have n3_ := Aside0.mk ((by rw [hg]; exact (below_size (by repeat (first | (with_reducible first | exact HB.out | apply below_alloc | apply pw_below_drewN | apply below_drew1) | exact HB.out))) : w.heap.size ≤ gb101)); clear HB; have HB := n0_; have BK101 := n1_; have GW101 := n2_; have GE101 := n3_; clear n0_ n1_ n2_ n3_; clear hb hbox hg; have hcz18_0 : w17.cell? ⟨gb101, 0, none⟩ = some (.int .i64 a0_0) := (Go.Proofs.YtjgomlcdmpcoaaaDoorW.PrintWords.blk_cell BK101.out 0).trans rfl; have hcz18_1 : w17.cell? ⟨gb101, 1, none⟩ = some (.int .i64 a0_1) := (Go.Proofs.YtjgomlcdmpcoaaaDoorW.PrintWords.blk_cell BK101.out 1).trans rfl; have hcz18_2 : w17.cell? ⟨gb101, 2, none⟩ = some (.int .i64 a0_2) := (Go.Proofs.YtjgomlcdmpcoaaaDoorW.PrintWords.blk_cell BK101.out 2).trans rfl; have hcz18_3 : w17.cell? ⟨gb101, 3, none⟩ = some (.int .i64 a0_3) := (Go.Proofs.YtjgomlcdmpcoaaaDoorW.PrintWords.blk_cell BK101.out 3).trans rfl; have hcz18_4 : w17.cell? ⟨gb101, 4, none⟩ = some (.int .i64 a0_4) := (Go.Proofs.YtjgomlcdmpcoaaaDoorW.PrintWords.blk_cell BK101.out 4).trans rfl; have hcz18_5 : w17.cell? ⟨gb101, 5, none⟩ = some (.bool a0_5) := (Go.Proofs.YtjgomlcdmpcoaaaDoorW.PrintWords.blk_cell BK101.out 5).trans rfl; have hcz18_6 : w17.cell? ⟨gb101, 6, none⟩ = some (.string a0_6) := (Go.Proofs.YtjgomlcdmpcoaaaDoorW.PrintWords.blk_cell BK101.out 6).trans rfl; have hcz18_7 : w17.cell? ⟨gb101, 7, none⟩ = some (.bool true) := (Go.Proofs.YtjgomlcdmpcoaaaDoorW.PrintWords.blk_cell BK101.out 7).trans rfl; have hfz18_0 := blk_frozen BK101.out 0; have hfz18_1 := blk_frozen BK101.out 1; have hfz18_2 := blk_frozen BK101.out 2; have hfz18_3 := blk_frozen BK101.out 3; have hfz18_4 := blk_frozen BK101.out 4; have hfz18_5 := blk_frozen BK101.out 5; have hfz18_6 := blk_frozen BK101.out 6; have hfz18_7 := blk_frozen BK101.out 7) | (go_at_call 60; (with_reducible refine (job_id.calls a0_2 true _ A6.out).mono ?_); rintro e w' ⟨rfl, ⟨nd, rfl⟩⟩) | (go_at_call 60; (with_reducible refine (job_id.calls a0_3 true _ A8.out).mono ?_); rintro e w' ⟨rfl, ⟨nd, rfl⟩⟩))
            go_ret; exact ⟨by first | rfl | (simp [errW_none, errW_some] <;> rfl) | (simp [*, errW_none, errW_some] <;> rfl), by repeat (first | (with_reducible first | exact HB.out | apply below_alloc | apply pw_below_drewN | apply below_drew1 | refine below_set ?_ GE101.out) | exact HB.out)⟩
          ·replace c13 := Bool.eq_false_iff.mpr c13
           subst c13; have H1 : (some true) = some r := by rw [if_neg (show ¬ (false = true) by decide)] at H; exact H
           clear H; have H := H1; clear H1; obtain rfl := Option.some.inj H; go_enter Tryd.func22, Tryd.ntmps22
           go_wp2_with (first | ((with_reducible refine gate_dst (N := 1) rfl ?_); (try (refine gate_guard (by rfl) ?_; dsimp only)); refine box_event ?hg (N := 1) ?hd (cs := #[.int .i64 a0_0, .int .i64 a0_1, .int .i64 a0_2, .int .i64 a0_3, .int .i64 a0_4, .bool a0_5, .string a0_6, .bool false]) (t := 23) ?hr ?_; (case hd => rfl); (case hg => rfl); (case hr => first | (go_simp; done) | (go_simp; rfl)); intro gb101 hg w19 hbox hb; have n0_ := Aside0.mk (below_step (by repeat (first | (with_reducible first | exact HB.out | apply below_alloc | apply pw_below_drewN | apply below_drew1) | exact HB.out)) hb); have n1_ := Aside0.mk (hbox); have n2_ := Aside0.mk ((by rw [hg]; exact (below_size (by repeat (first | (with_reducible first | exact HB.out | apply below_alloc | apply pw_below_drewN | apply below_drew1) | exact HB.out))) : w.heap.size ≤ gb101)); have n3_ := Aside0.mk ((by rw [hg]; exact (below_size (by repeat (first | (with_reducible first | exact HB.out | apply below_alloc | apply pw_below_drewN | apply below_drew1) | exact HB.out))) : w.heap.size ≤ gb101)); clear HB; have HB := n0_; have BK101 := n1_; have GW101 := n2_; have GE101 := n3_; clear n0_ n1_ n2_ n3_; clear hb hbox hg; have hcz20_0 : w19.cell? ⟨gb101, 0, none⟩ = some (.int .i64 a0_0) := (Go.Proofs.YtjgomlcdmpcoaaaDoorW.PrintWords.blk_cell BK101.out 0).trans rfl; have hcz20_1 : w19.cell? ⟨gb101, 1, none⟩ = some (.int .i64 a0_1) := (Go.Proofs.YtjgomlcdmpcoaaaDoorW.PrintWords.blk_cell BK101.out 1).trans rfl; have hcz20_2 : w19.cell? ⟨gb101, 2, none⟩ = some (.int .i64 a0_2) := (Go.Proofs.YtjgomlcdmpcoaaaDoorW.PrintWords.blk_cell BK101.out 2).trans rfl; have hcz20_3 : w19.cell? ⟨gb101, 3, none⟩ = some (.int .i64 a0_3) := (Go.Proofs.YtjgomlcdmpcoaaaDoorW.PrintWords.blk_cell BK101.out 3).trans rfl; have hcz20_4 : w19.cell? ⟨gb101, 4, none⟩ = some (.int .i64 a0_4) := (Go.Proofs.YtjgomlcdmpcoaaaDoorW.PrintWords.blk_cell BK101.out 4).trans rfl; have hcz20_5 : w19.cell? ⟨gb101, 5, none⟩ = some (.bool a0_5) := (Go.Proofs.YtjgomlcdmpcoaaaDoorW.PrintWords.blk_cell BK101.out 5).trans rfl; have hcz20_6 : w19.cell? ⟨gb101, 6, none⟩ = some (.string a0_6) := (Go.Proofs.YtjgomlcdmpcoaaaDoorW.PrintWords.blk_cell BK101.out 6).trans rfl; have hcz20_7 : w19.cell? ⟨gb101, 7, none⟩ = some (.bool false) := (Go.Proofs.YtjgomlcdmpcoaaaDoorW.PrintWords.blk_cell BK101.out 7).trans rfl; have hfz20_0 := blk_frozen BK101.out 0; have hfz20_1 := blk_frozen BK101.out 1; have hfz20_2 := blk_frozen BK101.out 2; have hfz20_3 := blk_frozen BK101.out 3; have hfz20_4 := blk_frozen BK101.out 4; have hfz20_5 := blk_frozen BK101.out 5; have hfz20_6 := blk_frozen BK101.out 6; have hfz20_7 := blk_frozen BK101.out 7) | (go_at_call 60; (with_reducible refine (job_id.calls a0_2 true _ A6.out).mono ?_); rintro e w' ⟨rfl, ⟨nd, rfl⟩⟩) | (go_at_call 60; (with_reducible refine (job_id.calls a0_3 true _ A8.out).mono ?_); rintro e w' ⟨rfl, ⟨nd, rfl⟩⟩))
           go_ret; exact ⟨by first | rfl | (simp [errW_none, errW_some] <;> rfl) | (simp [*, errW_none, errW_some] <;> rfl), by repeat (first | (with_reducible first | exact HB.out | apply below_alloc | apply pw_below_drewN | apply below_drew1 | refine below_set ?_ GE101.out) | exact HB.out)⟩
         ·rw [if_neg c12] at H
          have c12b0 : decide ((a0_6.size : Int) ≤ 1001) = false := decide_eq_false c12
          have c12b1 : decide (a0_6.size ≤ 1001) = false := decide_eq_false (by omega)
          clear c12; obtain rfl := Option.some.inj H; go_enter Tryd.func22, Tryd.ntmps22
          go_wp2_with (first | ((with_reducible refine gate_dst (N := 1) rfl ?_); (try (refine gate_guard (by rfl) ?_; dsimp only)); refine box_event ?hg (N := 1) ?hd (cs := #[.int .i64 a0_0, .int .i64 a0_1, .int .i64 a0_2, .int .i64 a0_3, .int .i64 a0_4, .bool a0_5, .string a0_6, .bool a0_7]) (t := 23) ?hr ?_; (case hd => rfl); (case hg => rfl); (case hr => first | (go_simp; done) | (go_simp; rfl)); intro gb101 hg w21 hbox hb; have n0_ := Aside0.mk (below_step (by repeat (first | (with_reducible first | exact HB.out | apply below_alloc | apply pw_below_drewN | apply below_drew1) | exact HB.out)) hb); have n1_ := Aside0.mk (hbox); have n2_ := Aside0.mk ((by rw [hg]; exact (below_size (by repeat (first | (with_reducible first | exact HB.out | apply below_alloc | apply pw_below_drewN | apply below_drew1) | exact HB.out))) : w.heap.size ≤ gb101)); have n3_ := Aside0.mk ((by rw [hg]; exact (below_size (by repeat (first | (with_reducible first | exact HB.out | apply below_alloc | apply pw_below_drewN | apply below_drew1) | exact HB.out))) : w.heap.size ≤ gb101)); clear HB; have HB := n0_; have BK101 := n1_; have GW101 := n2_; have GE101 := n3_; clear n0_ n1_ n2_ n3_; clear hb hbox hg; have hcz22_0 : w21.cell? ⟨gb101, 0, none⟩ = some (.int .i64 a0_0) := (Go.Proofs.YtjgomlcdmpcoaaaDoorW.PrintWords.blk_cell BK101.out 0).trans rfl; have hcz22_1 : w21.cell? ⟨gb101, 1, none⟩ = some (.int .i64 a0_1) := (Go.Proofs.YtjgomlcdmpcoaaaDoorW.PrintWords.blk_cell BK101.out 1).trans rfl; have hcz22_2 : w21.cell? ⟨gb101, 2, none⟩ = some (.int .i64 a0_2) := (Go.Proofs.YtjgomlcdmpcoaaaDoorW.PrintWords.blk_cell BK101.out 2).trans rfl; have hcz22_3 : w21.cell? ⟨gb101, 3, none⟩ = some (.int .i64 a0_3) := (Go.Proofs.YtjgomlcdmpcoaaaDoorW.PrintWords.blk_cell BK101.out 3).trans rfl; have hcz22_4 : w21.cell? ⟨gb101, 4, none⟩ = some (.int .i64 a0_4) := (Go.Proofs.YtjgomlcdmpcoaaaDoorW.PrintWords.blk_cell BK101.out 4).trans rfl; have hcz22_5 : w21.cell? ⟨gb101, 5, none⟩ = some (.bool a0_5) := (Go.Proofs.YtjgomlcdmpcoaaaDoorW.PrintWords.blk_cell BK101.out 5).trans rfl; have hcz22_6 : w21.cell? ⟨gb101, 6, none⟩ = some (.string a0_6) := (Go.Proofs.YtjgomlcdmpcoaaaDoorW.PrintWords.blk_cell BK101.out 6).trans rfl; have hcz22_7 : w21.cell? ⟨gb101, 7, none⟩ = some (.bool a0_7) := (Go.Proofs.YtjgomlcdmpcoaaaDoorW.PrintWords.blk_cell BK101.out 7).trans rfl; have hfz22_0 := blk_frozen BK101.out 0; have hfz22_1 := blk_frozen BK101.out 1; have hfz22_2 := blk_frozen BK101.out 2; have hfz22_3 := blk_frozen BK101.out 3; have hfz22_4 := blk_frozen BK101.out 4; have hfz22_5 := blk_frozen BK101.out 5; have hfz22_6 := blk_frozen BK101.out 6; have hfz22_7 := blk_frozen BK101.out 7) | (go_at_call 60; (with_reducible refine (job_id.calls a0_2 true _ A6.out).mono ?_); rintro e w' ⟨rfl, ⟨nd, rfl⟩⟩) | (go_at_call 60; (with_reducible refine (job_id.calls a0_3 true _ A8.out).mono ?_); rintro e w' ⟨rfl, ⟨nd, rfl⟩⟩))
          go_ret; exact ⟨by first | rfl | (simp [errW_none, errW_some] <;> rfl) | (simp [*, errW_none, errW_some] <;> rfl), by repeat (first | (with_reducible first | exact HB.out | apply below_alloc | apply pw_below_drewN | apply below_drew1 | refine below_set ?_ GE101.out) | exact HB.out)⟩
        ·rw [if_neg c11] at H
         have c11b0 : decide (a0_4 ≤ 4) = false := decide_eq_false c11
         clear c11; obtain rfl := Option.some.inj H; go_enter Tryd.func22, Tryd.ntmps22
         go_wp2_with (first | ((with_reducible refine gate_dst (N := 1) rfl ?_); (try (refine gate_guard (by rfl) ?_; dsimp only)); refine box_event ?hg (N := 1) ?hd (cs := #[.int .i64 a0_0, .int .i64 a0_1, .int .i64 a0_2, .int .i64 a0_3, .int .i64 a0_4, .bool a0_5, .string a0_6, .bool a0_7]) (t := 23) ?hr ?_; (case hd => rfl); (case hg => rfl); (case hr => first | (go_simp; done) | (go_simp; rfl)); intro gb101 hg w23 hbox hb; have n0_ := Aside0.mk (below_step (by repeat (first | (with_reducible first | exact HB.out | apply below_alloc | apply pw_below_drewN | apply below_drew1) | exact HB.out)) hb); have n1_ := Aside0.mk (hbox); have n2_ := Aside0.mk ((by rw [hg]; exact (below_size (by repeat (first | (with_reducible first | exact HB.out | apply below_alloc | apply pw_below_drewN | apply below_drew1) | exact HB.out))) : w.heap.size ≤ gb101)); have n3_ := Aside0.mk ((by rw [hg]; exact (below_size (by repeat (first | (with_reducible first | exact HB.out | apply below_alloc | apply pw_below_drewN | apply below_drew1) | exact HB.out))) : w.heap.size ≤ gb101)); clear HB; have HB := n0_; have BK101 := n1_; have GW101 := n2_; have GE101 := n3_; clear n0_ n1_ n2_ n3_; clear hb hbox hg; have hcz24_0 : w23.cell? ⟨gb101, 0, none⟩ = some (.int .i64 a0_0) := (Go.Proofs.YtjgomlcdmpcoaaaDoorW.PrintWords.blk_cell BK101.out 0).trans rfl; have hcz24_1 : w23.cell? ⟨gb101, 1, none⟩ = some (.int .i64 a0_1) := (Go.Proofs.YtjgomlcdmpcoaaaDoorW.PrintWords.blk_cell BK101.out 1).trans rfl; have hcz24_2 : w23.cell? ⟨gb101, 2, none⟩ = some (.int .i64 a0_2) := (Go.Proofs.YtjgomlcdmpcoaaaDoorW.PrintWords.blk_cell BK101.out 2).trans rfl; have hcz24_3 : w23.cell? ⟨gb101, 3, none⟩ = some (.int .i64 a0_3) := (Go.Proofs.YtjgomlcdmpcoaaaDoorW.PrintWords.blk_cell BK101.out 3).trans rfl; have hcz24_4 : w23.cell? ⟨gb101, 4, none⟩ = some (.int .i64 a0_4) := (Go.Proofs.YtjgomlcdmpcoaaaDoorW.PrintWords.blk_cell BK101.out 4).trans rfl; have hcz24_5 : w23.cell? ⟨gb101, 5, none⟩ = some (.bool a0_5) := (Go.Proofs.YtjgomlcdmpcoaaaDoorW.PrintWords.blk_cell BK101.out 5).trans rfl; have hcz24_6 : w23.cell? ⟨gb101, 6, none⟩ = some (.string a0_6) := (Go.Proofs.YtjgomlcdmpcoaaaDoorW.PrintWords.blk_cell BK101.out 6).trans rfl; have hcz24_7 : w23.cell? ⟨gb101, 7, none⟩ = some (.bool a0_7) := (Go.Proofs.YtjgomlcdmpcoaaaDoorW.PrintWords.blk_cell BK101.out 7).trans rfl; have hfz24_0 := blk_frozen BK101.out 0; have hfz24_1 := blk_frozen BK101.out 1; have hfz24_2 := blk_frozen BK101.out 2; have hfz24_3 := blk_frozen BK101.out 3; have hfz24_4 := blk_frozen BK101.out 4; have hfz24_5 := blk_frozen BK101.out 5; have hfz24_6 := blk_frozen BK101.out 6; have hfz24_7 := blk_frozen BK101.out 7) | (go_at_call 60; (with_reducible refine (job_id.calls a0_2 true _ A6.out).mono ?_); rintro e w' ⟨rfl, ⟨nd, rfl⟩⟩) | (go_at_call 60; (with_reducible refine (job_id.calls a0_3 true _ A8.out).mono ?_); rintro e w' ⟨rfl, ⟨nd, rfl⟩⟩))
         go_ret; exact ⟨by first | rfl | (simp [errW_none, errW_some] <;> rfl) | (simp [*, errW_none, errW_some] <;> rfl), by repeat (first | (with_reducible first | exact HB.out | apply below_alloc | apply pw_below_drewN | apply below_drew1 | refine below_set ?_ GE101.out) | exact HB.out)⟩
       ·rw [if_neg c10] at H
        have c10b0 : decide (1 ≤ a0_4) = false := decide_eq_false c10
        clear c10; obtain rfl := Option.some.inj H; go_enter Tryd.func22, Tryd.ntmps22
        go_wp2_with (first | ((with_reducible refine gate_dst (N := 1) rfl ?_); (try (refine gate_guard (by rfl) ?_; dsimp only)); refine box_event ?hg (N := 1) ?hd (cs := #[.int .i64 a0_0, .int .i64 a0_1, .int .i64 a0_2, .int .i64 a0_3, .int .i64 a0_4, .bool a0_5, .string a0_6, .bool a0_7]) (t := 23) ?hr ?_; (case hd => rfl); (case hg => rfl); (case hr => first | (go_simp; done) | (go_simp; rfl)); intro gb101 hg w25 hbox hb; have n0_ := Aside0.mk (below_step (by repeat (first | (with_reducible first | exact HB.out | apply below_alloc | apply pw_below_drewN | apply below_drew1) | exact HB.out)) hb); have n1_ := Aside0.mk (hbox); have n2_ := Aside0.mk ((by rw [hg]; exact (below_size (by repeat (first | (with_reducible first | exact HB.out | apply below_alloc | apply pw_below_drewN | apply below_drew1) | exact HB.out))) : w.heap.size ≤ gb101)); have n3_ := Aside0.mk ((by rw [hg]; exact (below_size (by repeat (first | (with_reducible first | exact HB.out | apply below_alloc | apply pw_below_drewN | apply below_drew1) | exact HB.out))) : w.heap.size ≤ gb101)); clear HB; have HB := n0_; have BK101 := n1_; have GW101 := n2_; have GE101 := n3_; clear n0_ n1_ n2_ n3_; clear hb hbox hg; have hcz26_0 : w25.cell? ⟨gb101, 0, none⟩ = some (.int .i64 a0_0) := (Go.Proofs.YtjgomlcdmpcoaaaDoorW.PrintWords.blk_cell BK101.out 0).trans rfl; have hcz26_1 : w25.cell? ⟨gb101, 1, none⟩ = some (.int .i64 a0_1) := (Go.Proofs.YtjgomlcdmpcoaaaDoorW.PrintWords.blk_cell BK101.out 1).trans rfl; have hcz26_2 : w25.cell? ⟨gb101, 2, none⟩ = some (.int .i64 a0_2) := (Go.Proofs.YtjgomlcdmpcoaaaDoorW.PrintWords.blk_cell BK101.out 2).trans rfl; have hcz26_3 : w25.cell? ⟨gb101, 3, none⟩ = some (.int .i64 a0_3) := (Go.Proofs.YtjgomlcdmpcoaaaDoorW.PrintWords.blk_cell BK101.out 3).trans rfl; have hcz26_4 : w25.cell? ⟨gb101, 4, none⟩ = some (.int .i64 a0_4) := (Go.Proofs.YtjgomlcdmpcoaaaDoorW.PrintWords.blk_cell BK101.out 4).trans rfl; have hcz26_5 : w25.cell? ⟨gb101, 5, none⟩ = some (.bool a0_5) := (Go.Proofs.YtjgomlcdmpcoaaaDoorW.PrintWords.blk_cell BK101.out 5).trans rfl; have hcz26_6 : w25.cell? ⟨gb101, 6, none⟩ = some (.string a0_6) := (Go.Proofs.YtjgomlcdmpcoaaaDoorW.PrintWords.blk_cell BK101.out 6).trans rfl; have hcz26_7 : w25.cell? ⟨gb101, 7, none⟩ = some (.bool a0_7) := (Go.Proofs.YtjgomlcdmpcoaaaDoorW.PrintWords.blk_cell BK101.out 7).trans rfl; have hfz26_0 := blk_frozen BK101.out 0; have hfz26_1 := blk_frozen BK101.out 1; have hfz26_2 := blk_frozen BK101.out 2; have hfz26_3 := blk_frozen BK101.out 3; have hfz26_4 := blk_frozen BK101.out 4; have hfz26_5 := blk_frozen BK101.out 5; have hfz26_6 := blk_frozen BK101.out 6; have hfz26_7 := blk_frozen BK101.out 7) | (go_at_call 60; (with_reducible refine (job_id.calls a0_2 true _ A6.out).mono ?_); rintro e w' ⟨rfl, ⟨nd, rfl⟩⟩) | (go_at_call 60; (with_reducible refine (job_id.calls a0_3 true _ A8.out).mono ?_); rintro e w' ⟨rfl, ⟨nd, rfl⟩⟩))
        go_ret; exact ⟨by first | rfl | (simp [errW_none, errW_some] <;> rfl) | (simp [*, errW_none, errW_some] <;> rfl), by repeat (first | (with_reducible first | exact HB.out | apply below_alloc | apply pw_below_drewN | apply below_drew1 | refine below_set ?_ GE101.out) | exact HB.out)⟩
      ·replace c9 := Bool.eq_false_iff.mpr c9
       subst c9; have H1 : (some false) = some r := by rw [if_neg (show ¬ (false = true) by decide)] at H; exact H
       clear H; have H := H1; clear H1; obtain rfl := Option.some.inj H; go_enter Tryd.func22, Tryd.ntmps22
       go_wp2_with (first | ((with_reducible refine gate_dst (N := 1) rfl ?_); (try (refine gate_guard (by rfl) ?_; dsimp only)); refine box_event ?hg (N := 1) ?hd (cs := #[.int .i64 a0_0, .int .i64 a0_1, .int .i64 a0_2, .int .i64 a0_3, .int .i64 a0_4, .bool a0_5, .string a0_6, .bool a0_7]) (t := 23) ?hr ?_; (case hd => rfl); (case hg => rfl); (case hr => first | (go_simp; done) | (go_simp; rfl)); intro gb101 hg w27 hbox hb; have n0_ := Aside0.mk (below_step (by repeat (first | (with_reducible first | exact HB.out | apply below_alloc | apply pw_below_drewN | apply below_drew1) | exact HB.out)) hb); have n1_ := Aside0.mk (hbox); have n2_ := Aside0.mk ((by rw [hg]; exact (below_size (by repeat (first | (with_reducible first | exact HB.out | apply below_alloc | apply pw_below_drewN | apply below_drew1) | exact HB.out))) : w.heap.size ≤ gb101)); have n3_ := Aside0.mk ((by rw [hg]; exact (below_size (by repeat (first | (with_reducible first | exact HB.out | apply below_alloc | apply pw_below_drewN | apply below_drew1) | exact HB.out))) : w.heap.size ≤ gb101)); clear HB; have HB := n0_; have BK101 := n1_; have GW101 := n2_; have GE101 := n3_; clear n0_ n1_ n2_ n3_; clear hb hbox hg; have hcz28_0 : w27.cell? ⟨gb101, 0, none⟩ = some (.int .i64 a0_0) := (Go.Proofs.YtjgomlcdmpcoaaaDoorW.PrintWords.blk_cell BK101.out 0).trans rfl; have hcz28_1 : w27.cell? ⟨gb101, 1, none⟩ = some (.int .i64 a0_1) := (Go.Proofs.YtjgomlcdmpcoaaaDoorW.PrintWords.blk_cell BK101.out 1).trans rfl; have hcz28_2 : w27.cell? ⟨gb101, 2, none⟩ = some (.int .i64 a0_2) := (Go.Proofs.YtjgomlcdmpcoaaaDoorW.PrintWords.blk_cell BK101.out 2).trans rfl; have hcz28_3 : w27.cell? ⟨gb101, 3, none⟩ = some (.int .i64 a0_3) := (Go.Proofs.YtjgomlcdmpcoaaaDoorW.PrintWords.blk_cell BK101.out 3).trans rfl; have hcz28_4 : w27.cell? ⟨gb101, 4, none⟩ = some (.int .i64 a0_4) := (Go.Proofs.YtjgomlcdmpcoaaaDoorW.PrintWords.blk_cell BK101.out 4).trans rfl; have hcz28_5 : w27.cell? ⟨gb101, 5, none⟩ = some (.bool a0_5) := (Go.Proofs.YtjgomlcdmpcoaaaDoorW.PrintWords.blk_cell BK101.out 5).trans rfl; have hcz28_6 : w27.cell? ⟨gb101, 6, none⟩ = some (.string a0_6) := (Go.Proofs.YtjgomlcdmpcoaaaDoorW.PrintWords.blk_cell BK101.out 6).trans rfl; have hcz28_7 : w27.cell? ⟨gb101, 7, none⟩ = some (.bool a0_7) := (Go.Proofs.YtjgomlcdmpcoaaaDoorW.PrintWords.blk_cell BK101.out 7).trans rfl; have hfz28_0 := blk_frozen BK101.out 0; have hfz28_1 := blk_frozen BK101.out 1; have hfz28_2 := blk_frozen BK101.out 2; have hfz28_3 := blk_frozen BK101.out 3; have hfz28_4 := blk_frozen BK101.out 4; have hfz28_5 := blk_frozen BK101.out 5; have hfz28_6 := blk_frozen BK101.out 6; have hfz28_7 := blk_frozen BK101.out 7) | (go_at_call 60; (with_reducible refine (job_id.calls a0_2 true _ A6.out).mono ?_); rintro e w' ⟨rfl, ⟨nd, rfl⟩⟩) | (go_at_call 60; (with_reducible refine (job_id.calls a0_3 false _ A8.out).mono ?_); rintro e w' ⟨rfl, ⟨nd, rfl⟩⟩))
       go_ret; exact ⟨by first | rfl | (simp [errW_none, errW_some] <;> rfl) | (simp [*, errW_none, errW_some] <;> rfl), by repeat (first | (with_reducible first | exact HB.out | apply below_alloc | apply pw_below_drewN | apply below_drew1 | refine below_set ?_ GE101.out) | exact HB.out)⟩
     ·replace c7 := Bool.eq_false_iff.mpr c7
      subst c7; have H1 : (some false) = some r := by rw [if_neg (show ¬ (false = true) by decide)] at H; exact H
      clear H; have H := H1; clear H1; obtain rfl := Option.some.inj H; go_enter Tryd.func22, Tryd.ntmps22
      go_wp2_with (first | ((with_reducible refine gate_dst (N := 1) rfl ?_); (try (refine gate_guard (by rfl) ?_; dsimp only)); refine box_event ?hg (N := 1) ?hd (cs := #[.int .i64 a0_0, .int .i64 a0_1, .int .i64 a0_2, .int .i64 a0_3, .int .i64 a0_4, .bool a0_5, .string a0_6, .bool a0_7]) (t := 23) ?hr ?_; (case hd => rfl); (case hg => rfl); (case hr => first | (go_simp; done) | (go_simp; rfl)); intro gb101 hg w29 hbox hb; have n0_ := Aside0.mk (below_step (by repeat (first | (with_reducible first | exact HB.out | apply below_alloc | apply pw_below_drewN | apply below_drew1) | exact HB.out)) hb); have n1_ := Aside0.mk (hbox); have n2_ := Aside0.mk ((by rw [hg]; exact (below_size (by repeat (first | (with_reducible first | exact HB.out | apply below_alloc | apply pw_below_drewN | apply below_drew1) | exact HB.out))) : w.heap.size ≤ gb101)); have n3_ := Aside0.mk ((by rw [hg]; exact (below_size (by repeat (first | (with_reducible first | exact HB.out | apply below_alloc | apply pw_below_drewN | apply below_drew1) | exact HB.out))) : w.heap.size ≤ gb101)); clear HB; have HB := n0_; have BK101 := n1_; have GW101 := n2_; have GE101 := n3_; clear n0_ n1_ n2_ n3_; clear hb hbox hg; have hcz30_0 : w29.cell? ⟨gb101, 0, none⟩ = some (.int .i64 a0_0) := (Go.Proofs.YtjgomlcdmpcoaaaDoorW.PrintWords.blk_cell BK101.out 0).trans rfl; have hcz30_1 : w29.cell? ⟨gb101, 1, none⟩ = some (.int .i64 a0_1) := (Go.Proofs.YtjgomlcdmpcoaaaDoorW.PrintWords.blk_cell BK101.out 1).trans rfl; have hcz30_2 : w29.cell? ⟨gb101, 2, none⟩ = some (.int .i64 a0_2) := (Go.Proofs.YtjgomlcdmpcoaaaDoorW.PrintWords.blk_cell BK101.out 2).trans rfl; have hcz30_3 : w29.cell? ⟨gb101, 3, none⟩ = some (.int .i64 a0_3) := (Go.Proofs.YtjgomlcdmpcoaaaDoorW.PrintWords.blk_cell BK101.out 3).trans rfl; have hcz30_4 : w29.cell? ⟨gb101, 4, none⟩ = some (.int .i64 a0_4) := (Go.Proofs.YtjgomlcdmpcoaaaDoorW.PrintWords.blk_cell BK101.out 4).trans rfl; have hcz30_5 : w29.cell? ⟨gb101, 5, none⟩ = some (.bool a0_5) := (Go.Proofs.YtjgomlcdmpcoaaaDoorW.PrintWords.blk_cell BK101.out 5).trans rfl; have hcz30_6 : w29.cell? ⟨gb101, 6, none⟩ = some (.string a0_6) := (Go.Proofs.YtjgomlcdmpcoaaaDoorW.PrintWords.blk_cell BK101.out 6).trans rfl; have hcz30_7 : w29.cell? ⟨gb101, 7, none⟩ = some (.bool a0_7) := (Go.Proofs.YtjgomlcdmpcoaaaDoorW.PrintWords.blk_cell BK101.out 7).trans rfl; have hfz30_0 := blk_frozen BK101.out 0; have hfz30_1 := blk_frozen BK101.out 1; have hfz30_2 := blk_frozen BK101.out 2; have hfz30_3 := blk_frozen BK101.out 3; have hfz30_4 := blk_frozen BK101.out 4; have hfz30_5 := blk_frozen BK101.out 5; have hfz30_6 := blk_frozen BK101.out 6; have hfz30_7 := blk_frozen BK101.out 7) | (go_at_call 60; (with_reducible refine (job_id.calls a0_2 false _ A6.out).mono ?_); rintro e w' ⟨rfl, ⟨nd, rfl⟩⟩))
      go_ret; exact ⟨by first | rfl | (simp [errW_none, errW_some] <;> rfl) | (simp [*, errW_none, errW_some] <;> rfl), by repeat (first | (with_reducible first | exact HB.out | apply below_alloc | apply pw_below_drewN | apply below_drew1 | refine below_set ?_ GE101.out) | exact HB.out)⟩
    ·rw [if_neg c5] at H
     have c5b0 : decide (a0_1 ≤ 11) = false := decide_eq_false c5
     clear c5; obtain rfl := Option.some.inj H; go_enter Tryd.func22, Tryd.ntmps22
     go_wp2_with (first | ((with_reducible refine gate_dst (N := 1) rfl ?_); (try (refine gate_guard (by rfl) ?_; dsimp only)); refine box_event ?hg (N := 1) ?hd (cs := #[.int .i64 a0_0, .int .i64 a0_1, .int .i64 a0_2, .int .i64 a0_3, .int .i64 a0_4, .bool a0_5, .string a0_6, .bool a0_7]) (t := 23) ?hr ?_; (case hd => rfl); (case hg => rfl); (case hr => first | (go_simp; done) | (go_simp; rfl)); intro gb101 hg w31 hbox hb; have n0_ := Aside0.mk (below_step (by repeat (first | (with_reducible first | exact HB.out | apply below_alloc | apply pw_below_drewN | apply below_drew1) | exact HB.out)) hb); have n1_ := Aside0.mk (hbox); have n2_ := Aside0.mk ((by rw [hg]; exact (below_size (by repeat (first | (with_reducible first | exact HB.out | apply below_alloc | apply pw_below_drewN | apply below_drew1) | exact HB.out))) : w.heap.size ≤ gb101)); have n3_ := Aside0.mk ((by rw [hg]; exact (below_size (by repeat (first | (with_reducible first | exact HB.out | apply below_alloc | apply pw_below_drewN | apply below_drew1) | exact HB.out))) : w.heap.size ≤ gb101)); clear HB; have HB := n0_; have BK101 := n1_; have GW101 := n2_; have GE101 := n3_; clear n0_ n1_ n2_ n3_; clear hb hbox hg; have hcz32_0 : w31.cell? ⟨gb101, 0, none⟩ = some (.int .i64 a0_0) := (Go.Proofs.YtjgomlcdmpcoaaaDoorW.PrintWords.blk_cell BK101.out 0).trans rfl; have hcz32_1 : w31.cell? ⟨gb101, 1, none⟩ = some (.int .i64 a0_1) := (Go.Proofs.YtjgomlcdmpcoaaaDoorW.PrintWords.blk_cell BK101.out 1).trans rfl; have hcz32_2 : w31.cell? ⟨gb101, 2, none⟩ = some (.int .i64 a0_2) := (Go.Proofs.YtjgomlcdmpcoaaaDoorW.PrintWords.blk_cell BK101.out 2).trans rfl; have hcz32_3 : w31.cell? ⟨gb101, 3, none⟩ = some (.int .i64 a0_3) := (Go.Proofs.YtjgomlcdmpcoaaaDoorW.PrintWords.blk_cell BK101.out 3).trans rfl; have hcz32_4 : w31.cell? ⟨gb101, 4, none⟩ = some (.int .i64 a0_4) := (Go.Proofs.YtjgomlcdmpcoaaaDoorW.PrintWords.blk_cell BK101.out 4).trans rfl; have hcz32_5 : w31.cell? ⟨gb101, 5, none⟩ = some (.bool a0_5) := (Go.Proofs.YtjgomlcdmpcoaaaDoorW.PrintWords.blk_cell BK101.out 5).trans rfl; have hcz32_6 : w31.cell? ⟨gb101, 6, none⟩ = some (.string a0_6) := (Go.Proofs.YtjgomlcdmpcoaaaDoorW.PrintWords.blk_cell BK101.out 6).trans rfl; have hcz32_7 : w31.cell? ⟨gb101, 7, none⟩ = some (.bool a0_7) := (Go.Proofs.YtjgomlcdmpcoaaaDoorW.PrintWords.blk_cell BK101.out 7).trans rfl; have hfz32_0 := blk_frozen BK101.out 0; have hfz32_1 := blk_frozen BK101.out 1; have hfz32_2 := blk_frozen BK101.out 2; have hfz32_3 := blk_frozen BK101.out 3; have hfz32_4 := blk_frozen BK101.out 4; have hfz32_5 := blk_frozen BK101.out 5; have hfz32_6 := blk_frozen BK101.out 6; have hfz32_7 := blk_frozen BK101.out 7))
     go_ret; exact ⟨by first | rfl | (simp [errW_none, errW_some] <;> rfl) | (simp [*, errW_none, errW_some] <;> rfl), by repeat (first | (with_reducible first | exact HB.out | apply below_alloc | apply pw_below_drewN | apply below_drew1 | refine below_set ?_ GE101.out) | exact HB.out)⟩
   ·rw [if_neg c4] at H
    have c4b0 : decide (6 ≤ a0_1) = false := decide_eq_false c4
    clear c4; obtain rfl := Option.some.inj H; go_enter Tryd.func22, Tryd.ntmps22
    go_wp2_with (first | ((with_reducible refine gate_dst (N := 1) rfl ?_); (try (refine gate_guard (by rfl) ?_; dsimp only)); refine box_event ?hg (N := 1) ?hd (cs := #[.int .i64 a0_0, .int .i64 a0_1, .int .i64 a0_2, .int .i64 a0_3, .int .i64 a0_4, .bool a0_5, .string a0_6, .bool a0_7]) (t := 23) ?hr ?_; (case hd => rfl); (case hg => rfl); (case hr => first | (go_simp; done) | (go_simp; rfl)); intro gb101 hg w33 hbox hb; have n0_ := Aside0.mk (below_step (by repeat (first | (with_reducible first | exact HB.out | apply below_alloc | apply pw_below_drewN | apply below_drew1) | exact HB.out)) hb); have n1_ := Aside0.mk (hbox); have n2_ := Aside0.mk ((by rw [hg]; exact (below_size (by repeat (first | (with_reducible first | exact HB.out | apply below_alloc | apply pw_below_drewN | apply below_drew1) | exact HB.out))) : w.heap.size ≤ gb101)); have n3_ := Aside0.mk ((by rw [hg]; exact (below_size (by repeat (first | (with_reducible first | exact HB.out | apply below_alloc | apply pw_below_drewN | apply below_drew1) | exact HB.out))) : w.heap.size ≤ gb101)); clear HB; have HB := n0_; have BK101 := n1_; have GW101 := n2_; have GE101 := n3_; clear n0_ n1_ n2_ n3_; clear hb hbox hg; have hcz34_0 : w33.cell? ⟨gb101, 0, none⟩ = some (.int .i64 a0_0) := (Go.Proofs.YtjgomlcdmpcoaaaDoorW.PrintWords.blk_cell BK101.out 0).trans rfl; have hcz34_1 : w33.cell? ⟨gb101, 1, none⟩ = some (.int .i64 a0_1) := (Go.Proofs.YtjgomlcdmpcoaaaDoorW.PrintWords.blk_cell BK101.out 1).trans rfl; have hcz34_2 : w33.cell? ⟨gb101, 2, none⟩ = some (.int .i64 a0_2) := (Go.Proofs.YtjgomlcdmpcoaaaDoorW.PrintWords.blk_cell BK101.out 2).trans rfl; have hcz34_3 : w33.cell? ⟨gb101, 3, none⟩ = some (.int .i64 a0_3) := (Go.Proofs.YtjgomlcdmpcoaaaDoorW.PrintWords.blk_cell BK101.out 3).trans rfl; have hcz34_4 : w33.cell? ⟨gb101, 4, none⟩ = some (.int .i64 a0_4) := (Go.Proofs.YtjgomlcdmpcoaaaDoorW.PrintWords.blk_cell BK101.out 4).trans rfl; have hcz34_5 : w33.cell? ⟨gb101, 5, none⟩ = some (.bool a0_5) := (Go.Proofs.YtjgomlcdmpcoaaaDoorW.PrintWords.blk_cell BK101.out 5).trans rfl; have hcz34_6 : w33.cell? ⟨gb101, 6, none⟩ = some (.string a0_6) := (Go.Proofs.YtjgomlcdmpcoaaaDoorW.PrintWords.blk_cell BK101.out 6).trans rfl; have hcz34_7 : w33.cell? ⟨gb101, 7, none⟩ = some (.bool a0_7) := (Go.Proofs.YtjgomlcdmpcoaaaDoorW.PrintWords.blk_cell BK101.out 7).trans rfl; have hfz34_0 := blk_frozen BK101.out 0; have hfz34_1 := blk_frozen BK101.out 1; have hfz34_2 := blk_frozen BK101.out 2; have hfz34_3 := blk_frozen BK101.out 3; have hfz34_4 := blk_frozen BK101.out 4; have hfz34_5 := blk_frozen BK101.out 5; have hfz34_6 := blk_frozen BK101.out 6; have hfz34_7 := blk_frozen BK101.out 7))
    go_ret; exact ⟨by first | rfl | (simp [errW_none, errW_some] <;> rfl) | (simp [*, errW_none, errW_some] <;> rfl), by repeat (first | (with_reducible first | exact HB.out | apply below_alloc | apply pw_below_drewN | apply below_drew1 | refine below_set ?_ GE101.out) | exact HB.out)⟩
  ·rw [if_neg c3] at H
   have c3b0 : decide (a0_0 < 1099511627776) = false := decide_eq_false c3
   clear c3; obtain rfl := Option.some.inj H; go_enter Tryd.func22, Tryd.ntmps22
   go_wp2_with (first | ((with_reducible refine gate_dst (N := 1) rfl ?_); (try (refine gate_guard (by rfl) ?_; dsimp only)); refine box_event ?hg (N := 1) ?hd (cs := #[.int .i64 a0_0, .int .i64 a0_1, .int .i64 a0_2, .int .i64 a0_3, .int .i64 a0_4, .bool a0_5, .string a0_6, .bool a0_7]) (t := 23) ?hr ?_; (case hd => rfl); (case hg => rfl); (case hr => first | (go_simp; done) | (go_simp; rfl)); intro gb101 hg w35 hbox hb; have n0_ := Aside0.mk (below_step (by repeat (first | (with_reducible first | exact HB.out | apply below_alloc | apply pw_below_drewN | apply below_drew1) | exact HB.out)) hb); have n1_ := Aside0.mk (hbox); have n2_ := Aside0.mk ((by rw [hg]; exact (below_size (by repeat (first | (with_reducible first | exact HB.out | apply below_alloc | apply pw_below_drewN | apply below_drew1) | exact HB.out))) : w.heap.size ≤ gb101)); have n3_ := Aside0.mk ((by rw [hg]; exact (below_size (by repeat (first | (with_reducible first | exact HB.out | apply below_alloc | apply pw_below_drewN | apply below_drew1) | exact HB.out))) : w.heap.size ≤ gb101)); clear HB; have HB := n0_; have BK101 := n1_; have GW101 := n2_; have GE101 := n3_; clear n0_ n1_ n2_ n3_; clear hb hbox hg; have hcz36_0 : w35.cell? ⟨gb101, 0, none⟩ = some (.int .i64 a0_0) := (Go.Proofs.YtjgomlcdmpcoaaaDoorW.PrintWords.blk_cell BK101.out 0).trans rfl; have hcz36_1 : w35.cell? ⟨gb101, 1, none⟩ = some (.int .i64 a0_1) := (Go.Proofs.YtjgomlcdmpcoaaaDoorW.PrintWords.blk_cell BK101.out 1).trans rfl; have hcz36_2 : w35.cell? ⟨gb101, 2, none⟩ = some (.int .i64 a0_2) := (Go.Proofs.YtjgomlcdmpcoaaaDoorW.PrintWords.blk_cell BK101.out 2).trans rfl; have hcz36_3 : w35.cell? ⟨gb101, 3, none⟩ = some (.int .i64 a0_3) := (Go.Proofs.YtjgomlcdmpcoaaaDoorW.PrintWords.blk_cell BK101.out 3).trans rfl; have hcz36_4 : w35.cell? ⟨gb101, 4, none⟩ = some (.int .i64 a0_4) := (Go.Proofs.YtjgomlcdmpcoaaaDoorW.PrintWords.blk_cell BK101.out 4).trans rfl; have hcz36_5 : w35.cell? ⟨gb101, 5, none⟩ = some (.bool a0_5) := (Go.Proofs.YtjgomlcdmpcoaaaDoorW.PrintWords.blk_cell BK101.out 5).trans rfl; have hcz36_6 : w35.cell? ⟨gb101, 6, none⟩ = some (.string a0_6) := (Go.Proofs.YtjgomlcdmpcoaaaDoorW.PrintWords.blk_cell BK101.out 6).trans rfl; have hcz36_7 : w35.cell? ⟨gb101, 7, none⟩ = some (.bool a0_7) := (Go.Proofs.YtjgomlcdmpcoaaaDoorW.PrintWords.blk_cell BK101.out 7).trans rfl; have hfz36_0 := blk_frozen BK101.out 0; have hfz36_1 := blk_frozen BK101.out 1; have hfz36_2 := blk_frozen BK101.out 2; have hfz36_3 := blk_frozen BK101.out 3; have hfz36_4 := blk_frozen BK101.out 4; have hfz36_5 := blk_frozen BK101.out 5; have hfz36_6 := blk_frozen BK101.out 6; have hfz36_7 := blk_frozen BK101.out 7))
   go_ret; exact ⟨by first | rfl | (simp [errW_none, errW_some] <;> rfl) | (simp [*, errW_none, errW_some] <;> rfl), by repeat (first | (with_reducible first | exact HB.out | apply below_alloc | apply pw_below_drewN | apply below_drew1 | refine below_set ?_ GE101.out) | exact HB.out)⟩
 ·rw [if_neg c2] at H
  have c2b0 : decide (1 ≤ a0_0) = false := decide_eq_false c2
  clear c2; obtain rfl := Option.some.inj H; go_enter Tryd.func22, Tryd.ntmps22
  go_wp2_with (first | ((with_reducible refine gate_dst (N := 1) rfl ?_); (try (refine gate_guard (by rfl) ?_; dsimp only)); refine box_event ?hg (N := 1) ?hd (cs := #[.int .i64 a0_0, .int .i64 a0_1, .int .i64 a0_2, .int .i64 a0_3, .int .i64 a0_4, .bool a0_5, .string a0_6, .bool a0_7]) (t := 23) ?hr ?_; (case hd => rfl); (case hg => rfl); (case hr => first | (go_simp; done) | (go_simp; rfl)); intro gb101 hg w37 hbox hb; have n0_ := Aside0.mk (below_step (by repeat (first | (with_reducible first | exact HB.out | apply below_alloc | apply pw_below_drewN | apply below_drew1) | exact HB.out)) hb); have n1_ := Aside0.mk (hbox); have n2_ := Aside0.mk ((by rw [hg]; exact (below_size (by repeat (first | (with_reducible first | exact HB.out | apply below_alloc | apply pw_below_drewN | apply below_drew1) | exact HB.out))) : w.heap.size ≤ gb101)); have n3_ := Aside0.mk ((by rw [hg]; exact (below_size (by repeat (first | (with_reducible first | exact HB.out | apply below_alloc | apply pw_below_drewN | apply below_drew1) | exact HB.out))) : w.heap.size ≤ gb101)); clear HB; have HB := n0_; have BK101 := n1_; have GW101 := n2_; have GE101 := n3_; clear n0_ n1_ n2_ n3_; clear hb hbox hg; have hcz38_0 : w37.cell? ⟨gb101, 0, none⟩ = some (.int .i64 a0_0) := (Go.Proofs.YtjgomlcdmpcoaaaDoorW.PrintWords.blk_cell BK101.out 0).trans rfl; have hcz38_1 : w37.cell? ⟨gb101, 1, none⟩ = some (.int .i64 a0_1) := (Go.Proofs.YtjgomlcdmpcoaaaDoorW.PrintWords.blk_cell BK101.out 1).trans rfl; have hcz38_2 : w37.cell? ⟨gb101, 2, none⟩ = some (.int .i64 a0_2) := (Go.Proofs.YtjgomlcdmpcoaaaDoorW.PrintWords.blk_cell BK101.out 2).trans rfl; have hcz38_3 : w37.cell? ⟨gb101, 3, none⟩ = some (.int .i64 a0_3) := (Go.Proofs.YtjgomlcdmpcoaaaDoorW.PrintWords.blk_cell BK101.out 3).trans rfl; have hcz38_4 : w37.cell? ⟨gb101, 4, none⟩ = some (.int .i64 a0_4) := (Go.Proofs.YtjgomlcdmpcoaaaDoorW.PrintWords.blk_cell BK101.out 4).trans rfl; have hcz38_5 : w37.cell? ⟨gb101, 5, none⟩ = some (.bool a0_5) := (Go.Proofs.YtjgomlcdmpcoaaaDoorW.PrintWords.blk_cell BK101.out 5).trans rfl; have hcz38_6 : w37.cell? ⟨gb101, 6, none⟩ = some (.string a0_6) := (Go.Proofs.YtjgomlcdmpcoaaaDoorW.PrintWords.blk_cell BK101.out 6).trans rfl; have hcz38_7 : w37.cell? ⟨gb101, 7, none⟩ = some (.bool a0_7) := (Go.Proofs.YtjgomlcdmpcoaaaDoorW.PrintWords.blk_cell BK101.out 7).trans rfl; have hfz38_0 := blk_frozen BK101.out 0; have hfz38_1 := blk_frozen BK101.out 1; have hfz38_2 := blk_frozen BK101.out 2; have hfz38_3 := blk_frozen BK101.out 3; have hfz38_4 := blk_frozen BK101.out 4; have hfz38_5 := blk_frozen BK101.out 5; have hfz38_6 := blk_frozen BK101.out 6; have hfz38_7 := blk_frozen BK101.out 7))
  go_ret; exact ⟨by first | rfl | (simp [errW_none, errW_some] <;> rfl) | (simp [*, errW_none, errW_some] <;> rfl), by repeat (first | (with_reducible first | exact HB.out | apply below_alloc | apply pw_below_drewN | apply below_drew1 | refine below_set ?_ GE101.out) | exact HB.out)⟩
end Go.Proofs.YtjgomlcdmpcoaaaDoor.D
namespace Go.Proofs.YtjgomlcdmpcoaaaDoor.H
open Go.RowKit Go.Proofs.YtjgomlcdmpcoaaaDoorW.PrintWords Go.Proofs.YtjgomlcdmpcoaaaDoorW.PrintLast Go.Proofs.YtjgomlcdmpcoaaaDoorW.PrintMore
open Go.Proofs.YtjgomlcdmpcoaaaDoor.D Go.Proofs.YtjgomlcdmpcoaaaDoor
set_option linter.unusedVariables false
set_option linter.unusedSimpArgs false
def jobB (a0 a1 a2 a3 a4 : Int) (fr : ByteArray) (bad : Bool) : Bool := decide (1 ≤ a0) && (decide (a0 < 1099511627776) && (decide (6 ≤ a1) && (decide (a1 ≤ 11) && (decide (1 ≤ a2) && (decide (a2 ≤ 60000) && (decide (1 ≤ a3) && (decide (a3 ≤ 60000) && (decide (1 ≤ a4) && (decide (a4 ≤ 4) && (decide (fr.size ≤ 1001) && ((!bad || (a4 == 2 || a4 == 4)))))))))))))
theorem job_id_f (n : Int) : job_id.f n = some (decide (1 ≤ n) && decide (n ≤ 60000)) := by
  unfold job_id.f
  by_cases h : n ≥ 1
  · rw [if_pos h]; simp [show 1 ≤ n from h]
  · rw [if_neg h]; simp [show ¬ 1 ≤ n from h]
theorem jmay_f (a0 a1 a2 a3 a4 : Int) (rd : Bool) (fr : ByteArray) (bad : Bool) : job_May.f a0 a1 a2 a3 a4 rd fr bad = some (jobB a0 a1 a2 a3 a4 fr bad) := by
  unfold job_May.f jobB
  rw [job_id_f, job_id_f]
  simp only [Option.bind_some]
  by_cases c1 : 1 ≤ a0 <;> by_cases c2 : a0 < 1099511627776 <;> by_cases c3 : 6 ≤ a1 <;> by_cases c4 : a1 ≤ 11 <;> simp only [c1, c2, c3, c4, ge_iff_le, if_true, if_false, decide_true, decide_false, Bool.true_and, Bool.false_and]
  by_cases c5 : 1 ≤ a2 <;> by_cases c6 : a2 ≤ 60000 <;> simp only [c5, c6, if_true, if_false, decide_true, decide_false, Bool.true_and, Bool.false_and, Bool.and_false, Bool.and_true, Bool.false_eq_true]
  by_cases c7 : 1 ≤ a3 <;> by_cases c8 : a3 ≤ 60000 <;> simp only [c7, c8, if_true, if_false, decide_true, decide_false, Bool.true_and, Bool.false_and, Bool.and_false, Bool.and_true, Bool.false_eq_true]
  by_cases c9 : 1 ≤ a4 <;> by_cases c10 : a4 ≤ 4 <;> simp only [c9, c10, if_true, if_false, decide_true, decide_false, Bool.true_and, Bool.false_and, Bool.and_false, Bool.and_true, Bool.false_eq_true]
  by_cases c11 : fr.size ≤ 1001
  · rw [if_pos (by omega)]
    simp only [c11, decide_true, Bool.true_and]
    cases bad
    · rfl
    · simp only [if_true, Bool.not_true, Bool.false_or]
      by_cases c12 : a4 = 2 <;> simp [c12]
  · rw [if_neg (by omega)]
    simp [c11]
theorem jmay_calls (a0 a1 a2 a3 a4 : Int) (rd : Bool) (fr : ByteArray) (bad : Bool) (w : World) :
    Calls Tryd.prog 22 #[.agg #[.int .i64 a0, .int .i64 a1, .int .i64 a2, .int .i64 a3, .int .i64 a4, .bool rd, .string fr, .bool bad]] w fun e w' => e = .returned (.bool (jobB a0 a1 a2 a3 a4 fr bad)) ∧ Below w.heap.size w w' :=
  (job_May.calls a0 a1 a2 a3 a4 rd fr bad _ w (jmay_f a0 a1 a2 a3 a4 rd fr bad)).mono fun e w' h => ⟨h.1, by first | exact h.2 | exact h.2.below⟩
set_option maxRecDepth 100000 in
set_option maxHeartbeats 4000000 in
theorem rjmay_calls (a0 a1 a2 a3 a4 : Int) (rd : Bool) (fr : ByteArray) (bad : Bool) (w : World) :
    Calls Tryd.prog 23 #[.agg #[.int .i64 a0, .int .i64 a1, .int .i64 a2, .int .i64 a3, .int .i64 a4, .bool rd, .string fr, .bool bad]] w fun e w' => e = .returned (.bool (jobB a0 a1 a2 a3 a4 fr bad)) ∧ Below w.heap.size w w' := by
  have hI : jobB a0 a1 a2 a3 a4 fr bad = (decide (1 ≤ a0) && (decide (a0 < 1099511627776) && (decide (6 ≤ a1) && (decide (a1 ≤ 11) && (decide (1 ≤ a2) && (decide (a2 ≤ 60000) && (decide (1 ≤ a3) && (decide (a3 ≤ 60000) && (decide (1 ≤ a4) && (decide (a4 ≤ 4) && (decide (fr.size ≤ 1001) && ((!bad || (a4 == 2 || a4 == 4)))))))))))))) := rfl
  generalize jobB a0 a1 a2 a3 a4 fr bad = R at hI ⊢
  cases q0 : decide (1 ≤ a0) with
  | false =>
    rw [q0] at hI
    simp only [Bool.false_and] at hI
    obtain rfl := hI
    go_enter Tryd.func23, Tryd.ntmps23
    go_wp2
    all_goals
      go_ret
      exact ⟨rfl, by first | exact below_alloc (Below.refl _ _) _ | exact below_drew (below_alloc (Below.refl _ _) _)⟩
  | true =>
    rw [q0, Bool.true_and] at hI
    cases q1 : decide (a0 < 1099511627776) with
    | false =>
      rw [q1] at hI
      simp only [Bool.false_and] at hI
      obtain rfl := hI
      go_enter Tryd.func23, Tryd.ntmps23
      go_wp2
      all_goals
        go_ret
        exact ⟨rfl, by first | exact below_alloc (Below.refl _ _) _ | exact below_drew (below_alloc (Below.refl _ _) _)⟩
    | true =>
      rw [q1, Bool.true_and] at hI
      cases q2 : decide (6 ≤ a1) with
      | false =>
        rw [q2] at hI
        simp only [Bool.false_and] at hI
        obtain rfl := hI
        go_enter Tryd.func23, Tryd.ntmps23
        go_wp2
        all_goals
          go_ret
          exact ⟨rfl, by first | exact below_alloc (Below.refl _ _) _ | exact below_drew (below_alloc (Below.refl _ _) _)⟩
      | true =>
        rw [q2, Bool.true_and] at hI
        cases q3 : decide (a1 ≤ 11) with
        | false =>
          rw [q3] at hI
          simp only [Bool.false_and] at hI
          obtain rfl := hI
          go_enter Tryd.func23, Tryd.ntmps23
          go_wp2
          all_goals
            go_ret
            exact ⟨rfl, by first | exact below_alloc (Below.refl _ _) _ | exact below_drew (below_alloc (Below.refl _ _) _)⟩
        | true =>
          rw [q3, Bool.true_and] at hI
          cases q4 : decide (1 ≤ a2) with
          | false =>
            rw [q4] at hI
            simp only [Bool.false_and] at hI
            obtain rfl := hI
            go_enter Tryd.func23, Tryd.ntmps23
            go_wp2
            all_goals
              go_ret
              exact ⟨rfl, by first | exact below_alloc (Below.refl _ _) _ | exact below_drew (below_alloc (Below.refl _ _) _)⟩
          | true =>
            rw [q4, Bool.true_and] at hI
            cases q5 : decide (a2 ≤ 60000) with
            | false =>
              rw [q5] at hI
              simp only [Bool.false_and] at hI
              obtain rfl := hI
              go_enter Tryd.func23, Tryd.ntmps23
              go_wp2
              all_goals
                go_ret
                exact ⟨rfl, by first | exact below_alloc (Below.refl _ _) _ | exact below_drew (below_alloc (Below.refl _ _) _)⟩
            | true =>
              rw [q5, Bool.true_and] at hI
              cases q6 : decide (1 ≤ a3) with
              | false =>
                rw [q6] at hI
                simp only [Bool.false_and] at hI
                obtain rfl := hI
                go_enter Tryd.func23, Tryd.ntmps23
                go_wp2
                all_goals
                  go_ret
                  exact ⟨rfl, by first | exact below_alloc (Below.refl _ _) _ | exact below_drew (below_alloc (Below.refl _ _) _)⟩
              | true =>
                rw [q6, Bool.true_and] at hI
                cases q7 : decide (a3 ≤ 60000) with
                | false =>
                  rw [q7] at hI
                  simp only [Bool.false_and] at hI
                  obtain rfl := hI
                  go_enter Tryd.func23, Tryd.ntmps23
                  go_wp2
                  all_goals
                    go_ret
                    exact ⟨rfl, by first | exact below_alloc (Below.refl _ _) _ | exact below_drew (below_alloc (Below.refl _ _) _)⟩
                | true =>
                  rw [q7, Bool.true_and] at hI
                  cases q8 : decide (1 ≤ a4) with
                  | false =>
                    rw [q8] at hI
                    simp only [Bool.false_and] at hI
                    obtain rfl := hI
                    go_enter Tryd.func23, Tryd.ntmps23
                    go_wp2
                    all_goals
                      go_ret
                      exact ⟨rfl, by first | exact below_alloc (Below.refl _ _) _ | exact below_drew (below_alloc (Below.refl _ _) _)⟩
                  | true =>
                    rw [q8, Bool.true_and] at hI
                    cases q9 : decide (a4 ≤ 4) with
                    | false =>
                      rw [q9] at hI
                      simp only [Bool.false_and] at hI
                      obtain rfl := hI
                      go_enter Tryd.func23, Tryd.ntmps23
                      go_wp2
                      all_goals
                        go_ret
                        exact ⟨rfl, by first | exact below_alloc (Below.refl _ _) _ | exact below_drew (below_alloc (Below.refl _ _) _)⟩
                    | true =>
                      rw [q9, Bool.true_and] at hI
                      cases q10 : decide (fr.size ≤ 1001) with
                      | false =>
                        rw [q10] at hI
                        simp only [Bool.false_and] at hI
                        obtain rfl := hI
                        have q10b : decide ((fr.size : Int) ≤ 1001) = false := decide_eq_false (by have := of_decide_eq_false q10; omega)
                        go_enter Tryd.func23, Tryd.ntmps23
                        go_wp2
                        all_goals
                          go_ret
                          exact ⟨rfl, by first | exact below_alloc (Below.refl _ _) _ | exact below_drew (below_alloc (Below.refl _ _) _)⟩
                      | true =>
                        rw [q10, Bool.true_and] at hI
                        have q10b : decide ((fr.size : Int) ≤ 1001) = true := decide_eq_true (by have := of_decide_eq_true q10; omega)
                        cases bad with
                        | false =>
                          obtain rfl : R = true := hI
                          go_enter Tryd.func23, Tryd.ntmps23
                          go_wp2
                          all_goals
                            go_ret
                            exact ⟨rfl, by first | exact below_alloc (Below.refl _ _) _ | exact below_drew (below_alloc (Below.refl _ _) _)⟩
                        | true =>
                          by_cases c12 : a4 = 2
                          · subst c12
                            obtain rfl : R = true := hI
                            go_enter Tryd.func23, Tryd.ntmps23
                            go_wp2
                            all_goals
                              go_ret
                              exact ⟨rfl, by first | exact below_alloc (Below.refl _ _) _ | exact below_drew (below_alloc (Below.refl _ _) _)⟩
                          · have c12b : (a4 == 2) = false := by simpa using c12
                            rw [c12b] at hI
                            simp only [Bool.not_true, Bool.false_or] at hI
                            by_cases c13 : a4 = 4
                            · subst c13
                              obtain rfl : R = true := hI
                              go_enter Tryd.func23, Tryd.ntmps23
                              go_wp2
                              all_goals
                                go_ret
                                exact ⟨rfl, by first | exact below_alloc (Below.refl _ _) _ | exact below_drew (below_alloc (Below.refl _ _) _)⟩
                            · have c13b : (a4 == 4) = false := by simpa using c13
                              obtain rfl : R = false := hI.trans c13b
                              clear hI c12 c13
                              go_enter Tryd.func23, Tryd.ntmps23
                              go_wp2
                              all_goals
                                go_ret
                                exact ⟨rfl, by first | exact below_alloc (Below.refl _ _) _ | exact below_drew (below_alloc (Below.refl _ _) _)⟩
end Go.Proofs.YtjgomlcdmpcoaaaDoor.H
namespace Go.Proofs.YtjgomlcdmpcoaaaDoor.H
open Go.RowKit Go.Proofs.YtjgomlcdmpcoaaaDoorW.PrintWords Go.Proofs.YtjgomlcdmpcoaaaDoorW.PrintLast Go.Proofs.YtjgomlcdmpcoaaaDoorW.PrintMore
open Go.Proofs.YtjgomlcdmpcoaaaDoor.D Go.Proofs.YtjgomlcdmpcoaaaDoor
set_option linter.unusedVariables false
set_option linter.unusedSimpArgs false
set_option maxRecDepth 100000 in
set_option maxHeartbeats 4000000 in
theorem state6_yes (v nx kind table elem : Int) (ts : List S70) (hwf : ∀ t ∈ ts, TabWf t) (ad : Addr) (c i k : Nat) (w : World) (hG : GL w) (hkd : finder kind = .func (.func 146) #[] #[]) (hC : k70.C w (some ad) ts.length ts) (hsch : schB v ts nx = true)
    (hi : idxL (tId table) ts 0 = (i : Int)) (hil : i < ts.length) (hk : idxL (xId elem) ts[i].f3 0 = (k : Int)) (hkl : k < ts[i].f3.length) :
    Calls Tryd.prog 53 #[.agg #[.int .i64 v, .slice (some ad) ts.length c, .int .i64 nx], .int .i64 kind, .int .i64 table, .int .i64 elem] w fun e w' => e = .returned (.tuple #[.int .i64 ts[i].f3[k].f4, .bool true]) ∧ Below w.heap.size w w' := by
  have hb0 := below_alloc (Below.refl _ w) (.cells #[.int .i64 v, .slice (some ad) ts.length c, .int .i64 nx] 28)
  have HM := Lib.hid (may_calls v ts nx hwf (some ad) c (w.alloc (.cells #[.int .i64 v, .slice (some ad) ts.length c, .int .i64 nx] 28)) (hG.of_below hb0) (Kd.C_below hC hb0))
  rw [hsch] at HM
  have HX := Aside0.mk (heap_alloc_new w (.cells #[.int .i64 v, .slice (some ad) ts.length c, .int .i64 nx] 28))
  have HC := Aside0.mk hC
  have HF := Lib.hid (fun (w' : World) (hb : Below w.heap.size w w') hX => find6_yes w.heap.size v nx kind table elem ts ad c i k w' hkd hX (Kd.C_below hC hb) hi hil hk hkl)
  have HB0 := Aside0.mk hb0
  clear hb0 hC hG hsch hi hk hkd hwf
  generalize ts[i].f3[k].f4 = st at HF ⊢
  go_enter Tryd.func53, Tryd.ntmps53
  go_wp2_with fail
  refine HM.out.mono ?_
  rintro e w1 ⟨rfl, hb1⟩
  have HB1 := Aside0.mk (below_then HB0.out (by simp) hb1)
  have hx1 := blk_below HX.out hb1
  have HX1 := Aside0.mk hx1
  clear hb1 hx1 HM HB0 HX
  go_wp2_with fail
  refine (HF.out _ HB1.out HX1.out).mono ?_
  rintro e w2 ⟨E, a3, rfl, hb2, hel, hst⟩
  have HB2 := Aside0.mk (below_then HB1.out HB1.out.size hb2)
  have e1 := blk_cell (j := 1) (v := .pointer (some ⟨(a3.add (k * 5)).block, (a3.add (k * 5)).off + 4, none⟩)) hel rfl
  clear hb2 hel HF
  go_wp2
  go_ret2
  exact ⟨rfl, HB2.out⟩
set_option maxRecDepth 100000 in
set_option maxHeartbeats 4000000 in
theorem next_fill (v nx : Int) (ts : List S70) (hwf : ∀ t ∈ ts, TabWf t) (ad : Addr) (c i k : Nat) (table elem : Int) (w : World) (hG : GL w) (hC : k70.C w (some ad) ts.length ts) (hsch : schB v ts nx = true) (hj : jobB 1 6 table elem 1 ⟨#[]⟩ false = true)
    (hi : idxL (tId table) ts 0 = (i : Int)) (hil : i < ts.length) (hk : idxL (xId elem) ts[i].f3 0 = (k : Int)) (hkl : k < ts[i].f3.length) (hst : ts[i].f3[k].f4 = 2) :
    Calls Tryd.prog 26 #[.agg #[.int .i64 v, .slice (some ad) ts.length c, .int .i64 nx], .agg #[.int .i64 1, .int .i64 6, .int .i64 table, .int .i64 elem, .int .i64 1, .bool false, .string ⟨#[]⟩, .bool false]] w fun e w' => e = .returned (.tuple #[.int .i64 2, .int .i64 0]) ∧ Below w.heap.size w w' := by
  obtain ⟨w0, hw0⟩ : ∃ w0, w0 = (w.alloc (.cells #[.int .i64 v, .slice (some ad) ts.length c, .int .i64 nx] 28)).alloc (.cells #[.int .i64 1, .int .i64 6, .int .i64 table, .int .i64 elem, .int .i64 1, .bool false, .string ⟨#[]⟩, .bool false] 23) := ⟨_, rfl⟩
  have hb0 : Below w.heap.size w w0 := by rw [hw0]; exact below_alloc (below_alloc (Below.refl _ _) _) _
  have hx0 : w0.heap[w.heap.size]? = some (.cells #[.int .i64 v, .slice (some ad) ts.length c, .int .i64 nx] 28 (0, 0)) := by rw [hw0]; exact blk_alloc (heap_alloc_new w _) _
  have hy0 : w0.heap[w.heap.size + 1]? = some (.cells #[.int .i64 1, .int .i64 6, .int .i64 table, .int .i64 elem, .int .i64 1, .bool false, .string ⟨#[]⟩, .bool false] 23 (0, 0)) := by
    have := heap_alloc_new (w.alloc (.cells #[.int .i64 v, .slice (some ad) ts.length c, .int .i64 nx] 28)) (.cells #[.int .i64 1, .int .i64 6, .int .i64 table, .int .i64 elem, .int .i64 1, .bool false, .string ⟨#[]⟩, .bool false] 23)
    rw [hw0]
    simpa using this
  have HM := Lib.hid (may_calls v ts nx hwf (some ad) c w0 (hG.of_below hb0) (Kd.C_below hC hb0))
  rw [hsch] at HM
  have HJ := Lib.hid (fun w => jmay_calls 1 6 table elem 1 false ⟨#[]⟩ false w)
  rw [hj] at HJ
  have HS := Lib.hid (fun (w' : World) (hb : Below w.heap.size w w') => state6_yes v nx 6 table elem ts hwf ad c i k w' (hG.of_below hb) rfl (Kd.C_below hC hb) hsch hi hil hk hkl)
  rw [hst] at HS
  have HB0 := Aside0.mk hb0
  have HX0 := Aside0.mk hx0
  have HY0 := Aside0.mk hy0
  rw [hw0] at HM
  have HW0 := Lib.hid hw0
  clear hb0 hx0 hy0 hC hG hsch hi hk hwf hj hst hw0
  go_enter Tryd.func26, Tryd.ntmps26
  go_wp2_with fail
  refine HM.out.mono ?_
  rw [← HW0.out]
  rintro e w1 ⟨rfl, hb1⟩
  have HB1 := Aside0.mk (below_then HB0.out HB0.out.size hb1)
  have hx1 := blk_below HX0.out hb1
  have hy1 := blk_below HY0.out hb1
  have HX1 := Aside0.mk hx1
  have HY1 := Aside0.mk hy1
  have y0 := blk_cell (j := 0) (v := .int .i64 1) hy1 rfl
  have y1 := blk_cell (j := 1) (v := .int .i64 6) hy1 rfl
  have y2 := blk_cell (j := 2) (v := .int .i64 table) hy1 rfl
  have y3 := blk_cell (j := 3) (v := .int .i64 elem) hy1 rfl
  have y4 := blk_cell (j := 4) (v := .int .i64 1) hy1 rfl
  have y5 := blk_cell (j := 5) (v := .bool false) hy1 rfl
  have y6 := blk_cell (j := 6) (v := .string ⟨#[]⟩) hy1 rfl
  have y7 := blk_cell (j := 7) (v := .bool false) hy1 rfl
  clear hb1 hx1 hy1 HM HB0 HX0 HY0
  go_wp2_with fail
  refine (HJ.out _).mono ?_
  rintro e w2 ⟨rfl, hb2⟩
  have HB2 := Aside0.mk (below_then HB1.out HB1.out.size hb2)
  have hx2 := blk_below HX1.out hb2
  have hy2 := blk_below HY1.out hb2
  have HY2 := Aside0.mk hy2
  clear y0 y1 y2 y3 y4 y5 y6 y7
  have x0 := blk_cell (j := 0) (v := .int .i64 v) hx2 rfl
  have x1 := blk_cell (j := 1) (v := .slice (some ad) ts.length c) hx2 rfl
  have x2 := blk_cell (j := 2) (v := .int .i64 nx) hx2 rfl
  have y1 := blk_cell (j := 1) (v := .int .i64 6) hy2 rfl
  have y2 := blk_cell (j := 2) (v := .int .i64 table) hy2 rfl
  have y3 := blk_cell (j := 3) (v := .int .i64 elem) hy2 rfl
  have y4 := blk_cell (j := 4) (v := .int .i64 1) hy2 rfl
  clear hb2 hx2 hy2 HJ HB1 HX1 HY1
  go_wp2_with fail
  refine (HS.out _ HB2.out).mono ?_
  rintro e w3 ⟨rfl, hb3⟩
  have HB3 := Aside0.mk (below_then HB2.out HB2.out.size hb3)
  have hy3 := blk_below HY2.out hb3
  clear x0 x1 x2 y1 y2 y3 y4
  have y4 := blk_cell (j := 4) (v := .int .i64 1) hy3 rfl
  have y5 := blk_cell (j := 5) (v := .bool false) hy3 rfl
  clear hb3 hy3 HS HB2 HY2
  go_wp2
  go_ret2
  exact ⟨rfl, HB3.out⟩
end Go.Proofs.YtjgomlcdmpcoaaaDoor.H






namespace Go.Proofs.YtjgomlcdmpcoaaaDoor.H
open Go.RowKit Go.Proofs.YtjgomlcdmpcoaaaDoorW.PrintWords Go.Proofs.YtjgomlcdmpcoaaaDoorW.PrintLast Go.Proofs.YtjgomlcdmpcoaaaDoorW.PrintMore
open Go.Proofs.YtjgomlcdmpcoaaaDoor.D Go.Proofs.YtjgomlcdmpcoaaaDoor
set_option linter.unusedVariables false
set_option linter.unusedSimpArgs false
structure Told where
  v : Int
  ts : List S70
  nx : Int
  table : Int
  elem : Int
  err : Int
def noTold (e : Int) : Told := ⟨0, [], 0, 0, 0, e⟩
def beginP (f : S70 → S45 → S70 × Int × Int) (v : Int) (ts : List S70) (nx : Int) (s : S45) : Told :=
  if schB v ts nx = false then noTold 3
  else if 1099511627775 ≤ v then noTold 4
  else if s.f0 < 6 ∨ 11 < s.f0 then noTold 1
  else if idxL (tName s.f1) ts 0 < 0 then noTold 5
  else if (f (rd_T70 ts (idxL (tName s.f1) ts 0)) s).2.2 ≠ 0 then noTold (f (rd_T70 ts (idxL (tName s.f1) ts 0)) s).2.2
  else ⟨v + 1, ts.set (idxL (tName s.f1) ts 0).toNat (f (rd_T70 ts (idxL (tName s.f1) ts 0)) s).1, nx, (f (rd_T70 ts (idxL (tName s.f1) ts 0)) s).1.f0, (f (rd_T70 ts (idxL (tName s.f1) ts 0)) s).2.1, 0⟩
structure Bxs (w W : World) (bx sx : Array Value) : Prop where
  below : Below w.heap.size w W
  b0 : W.heap[w.heap.size]? = some (.cells bx 28 (0, 0))
  b1 : W.heap[w.heap.size + 1]? = some (.cells sx 45 (0, 0))
  b2 : W.heap[w.heap.size + 1 + 1]? = some (.cells #[.int .i64 0, .slice none 0 0, .int .i64 0] 28 (0, 0))
section
variable {w W W1 : World} {bx sx : Array Value}
theorem Bxs.new (w : World) (bx sx : Array Value) : Bxs w (((w.alloc (.cells bx 28)).alloc (.cells sx 45)).alloc (.cells #[.int .i64 0, .slice none 0 0, .int .i64 0] 28)) bx sx := by
  have h1 := heap_alloc_new w (.cells bx 28)
  have h2 := heap_alloc_new (w.alloc (.cells bx 28)) (.cells sx 45)
  have h3 := heap_alloc_new ((w.alloc (.cells bx 28)).alloc (.cells sx 45)) (.cells #[.int .i64 0, .slice none 0 0, .int .i64 0] 28)
  rw [show (w.alloc (.cells bx 28)).heap.size = w.heap.size + 1 by simp] at h2
  rw [show ((w.alloc (.cells bx 28)).alloc (.cells sx 45)).heap.size = w.heap.size + 1 + 1 by simp] at h3
  exact ⟨below_alloc (below_alloc (below_alloc (Below.refl _ _) _) _) _, blk_alloc (blk_alloc h1 _) _, blk_alloc h2 _, h3⟩
theorem Bxs.step (h : Bxs w W bx sx) (hb : Below W.heap.size W W1) : Bxs w W1 bx sx := ⟨below_then h.below h.below.size hb, blk_below h.b0 hb, blk_below h.b1 hb, blk_below h.b2 hb⟩
theorem Bxs.tch (h : Bxs w W bx sx) (hb : Tch w.heap.size W W1) : Bxs w W1 bx sx := ⟨h.below.trans hb.below, hb.box h.b0, hb.box h.b1, hb.box h.b2⟩
theorem Bxs.out (h : Bxs w W bx sx) (a b c : Value) : Below w.heap.size w (((W.setCell ⟨w.heap.size + 1 + 1, 0, none⟩ a).setCell ⟨w.heap.size + 1 + 1, 1, none⟩ b).setCell ⟨w.heap.size + 1 + 1, 2, none⟩ c) :=
  have hl : w.heap.size ≤ w.heap.size + 1 + 1 := by omega
  ((h.below.setCell hl _).setCell hl _).setCell hl _
end
def Tells (w : World) (r : Told) (e : Ending) (w' : World) : Prop :=
  ∃ A c, e = .returned (.tuple #[.agg #[.int .i64 r.v, .slice A r.ts.length c, .int .i64 r.nx], .int .i64 r.table, .int .i64 r.elem, .int .i64 r.err]) ∧ k70.R 70 w' w.heap.size (fun _ => True) (.slice A r.ts.length c) r.ts ∧ Below w.heap.size w w'
theorem rtabn_calls (v : Int) (ts : List S70) (nx : Int) (n : ByteArray) (hn : ts.length < 1000) (A : Option Addr) (c : Nat) (w : World) (hc : ts.length ≤ c) (g2 : k70.C w A ts.length ts) :
    Calls Tryd.prog 55 #[.agg #[.int .i64 v, .slice A ts.length c, .int .i64 nx], .string n] w fun e w' => e = .returned (.int .i64 (idxL (tName n) ts 0)) ∧ Below w.heap.size w w' := by
  have h := table_run n v ts nx (by omega) ts.length 1001 0 (by omega) (by omega)
  rw [List.drop_zero] at h
  exact (falseworkref18_Table.calls 1001 v A c ts nx n _ w g2 hc h).mono fun e w' h => ⟨h.1, by first | exact h.2 | exact h.2.below⟩
theorem schB_small {v : Int} {ts : List S70} {nx : Int} (h : schB v ts nx = true) : Small ts := by
  refine ⟨by have := (schB_len h).2; omega, fun t ht => ?_⟩
  obtain ⟨h1, h2, h3, h4⟩ := tableB_lens (schB_tab h t ht)
  exact ⟨by omega, by omega, fun x hx => by have := h4 x hx; omega⟩
theorem S_set3 {W : World} {B g : Nat} {u a b c : Value} {l : List S70} {cs : Array Value} (hS : Kd.S k70 70 W B (fun _ => True) u l) (hx : W.heap[g]? = some (.cells cs 28 (0, 0))) :
    Kd.S k70 70 (((W.setCell ⟨g, 0, none⟩ a).setCell ⟨g, 1, none⟩ b).setCell ⟨g, 2, none⟩ c) B (fun _ => True) u l := by
  have h1 := blk_put hx 0 a rfl
  have h2 := blk_put h1 1 b rfl
  exact Kd.S_set (Kd.S_set (Kd.S_set hS hx (by decide) 0 a) h1 (by decide) 1 b) h2 (by decide) 2 c
theorem Bxs.far {w W : World} {bx sx : Array Value} (h : Bxs w W bx sx) {g j : Nat} (hg : w.heap.size + 1 + 1 < g) (u : Value) : Bxs w (W.setCell ⟨g, j, none⟩ u) bx sx :=
  ⟨h.below.setCell (p := ⟨g, j, none⟩) (show w.heap.size ≤ g by omega) _, blk_far h.b0 (p := ⟨g, j, none⟩) (show w.heap.size ≠ g by omega) _, blk_far h.b1 (p := ⟨g, j, none⟩) (show w.heap.size + 1 ≠ g by omega) _, blk_far h.b2 (p := ⟨g, j, none⟩) (show w.heap.size + 1 + 1 ≠ g by omega) _⟩
theorem tells_ok {w W : World} {R : Told} {g cap : Nat} {v nx table elem : Int} {ts : List S70} (hR : R = ⟨v, ts, nx, table, elem, 0⟩) (hS : Kd.S k70 70 W w.heap.size (fun _ => True) (.slice (some ⟨g, 0, none⟩) ts.length cap) ts) (hb : Below w.heap.size w W) :
    Tells w R (.returned (.tuple #[.agg #[.int .i64 v, .slice (some ⟨g, 0, none⟩) ts.length cap, .int .i64 nx], .int .i64 table, .int .i64 elem, .int .i64 0])) W := by
  subst hR
  exact ⟨_, _, rfl, Kd.S_R hS, hb⟩
theorem tells_no {w W : World} {R : Told} {n : Int} (hR : R = noTold n) (hb : Below w.heap.size w W) : Tells w R (.returned (.tuple #[.agg #[.int .i64 0, .slice none 0 0, .int .i64 0], .int .i64 0, .int .i64 0, .int .i64 n])) W := by
  subst hR
  exact ⟨none, 0, rfl, Kd.R_nil _ _ _ _ _, hb⟩
set_option maxRecDepth 100000 in
set_option maxHeartbeats 4000000 in
theorem begin_of (F : Nat) (f : S70 → S45 → S70 × Int × Int) (hU : Upd F f) (v : Int) (ts : List S70) (nx : Int) (s : S45) (hF : (s.f0 = 6 ∧ F = 62) ∨ (s.f0 = 8 ∧ F = 63) ∨ (s.f0 ≠ 6 ∧ s.f0 ≠ 8 ∧ F = 64)) (hn : ts.length < 1000) (hw : ∀ t ∈ ts, ∀ c ∈ t.f2, ValWf c.f5)
    (A : Option Addr) (c : Nat) (w : World) (hc : ts.length ≤ c) (g2 : k70.C w A ts.length ts) (cs : List Value) (hs : k45.K w s cs) (hok : StmtOk s) :
    Calls Tryd.prog 30 #[.agg #[.int .i64 v, .slice A ts.length c, .int .i64 nx], .agg cs.toArray] w (Tells w (beginP f v ts nx s)) := by
  obtain ⟨A3, c3, A4, c4, A5, c5, A6, c6, A9, c9, rfl, -⟩ := k45_open hs
  have HS := Aside0.mk hs
  have HC := Aside0.mk g2
  obtain ⟨bx, hbx⟩ : ∃ b : Array Value, b = #[.int .i64 v, .slice A ts.length c, .int .i64 nx] := ⟨_, rfl⟩
  obtain ⟨sx, hsx⟩ : ∃ b : Array Value, b = #[.int .i64 s.f0, .string s.f1, .string s.f2, .slice A3 s.f3.length c3, .slice A4 s.f4.length c4, .slice A5 s.f5.length c5, .slice A6 s.f6.length c6, .bool s.f7, .int .i64 s.f8, .slice A9 s.f9.length c9] := ⟨_, rfl⟩
  have HX := Aside0.mk (Bxs.new w bx sx)
  have HM := Lib.hid (fun W (hb : Below w.heap.size w W) => rmay_calls v ts nx hw A c W hc (Kd.C_below g2 hb))
  have HI := Lib.hid (show beginP f v ts nx s = _ by unfold beginP; exact rfl)
  have HU := Lib.hid hU
  obtain ⟨R, hR⟩ : ∃ R, beginP f v ts nx s = R := ⟨_, rfl⟩
  rw [hR]
  rw [hR] at HI
  rw [hbx, hsx] at HX
  clear hs g2 hR hw hU
  cases hsch : schB v ts nx with
  | false =>
    have HR := Lib.hid (show R = noTold 3 by rw [HI.out, if_pos hsch])
    rw [hsch] at HM
    clear hsch HI
    go_enter Tryd.func30, Tryd.ntmps30
    go_wp2_with fail
    refine (HM.out _ HX.out.below).mono ?_
    rintro e w1 ⟨rfl, hb1⟩
    have HX1 := Aside0.mk (HX.out.step hb1)
    have f0 := blk_frozen HX1.out.b2 0
    have f1 := blk_frozen HX1.out.b2 1
    have f2 := blk_frozen HX1.out.b2 2
    have c0 := blk_cell (j := 0) (v := .int .i64 0) HX1.out.b2 rfl
    have c1 := blk_cell (j := 1) (v := .slice none 0 0) HX1.out.b2 rfl
    have c2 := blk_cell (j := 2) (v := .int .i64 0) HX1.out.b2 rfl
    clear hb1
    go_wp2
    refine bodyPost_ret (v := .tuple #[.agg #[.int .i64 0, .slice none 0 0, .int .i64 0], .int .i64 0, .int .i64 0, .int .i64 3]) (by simp [results, Tryd.results30, go_sem, c0, c1, c2]) rfl (tells_no HR.out (HX1.out.out _ _ _))
  | true =>
    rw [hsch] at HM
    have HI2 := Lib.hid (HI.out.trans (if_neg (by rw [hsch]; simp)))
    have HB := Lib.hid hsch
    clear hsch HI
    go_enter Tryd.func30, Tryd.ntmps30
    go_wp2_with fail
    refine (HM.out _ HX.out.below).mono ?_
    rintro e w1 ⟨rfl, hb1⟩
    have HX1 := Aside0.mk (HX.out.step hb1)
    have x0 := blk_cell (j := 0) (v := .int .i64 v) HX1.out.b0 rfl
    clear hb1 HX HM
    by_cases hv : 1099511627775 ≤ v
    · have hd : decide (1099511627775 ≤ v) = true := decide_eq_true hv
      have HR := Lib.hid (show R = noTold 4 by rw [HI2.out, if_pos hv])
      have f0 := blk_frozen HX1.out.b2 0
      have f1 := blk_frozen HX1.out.b2 1
      have f2 := blk_frozen HX1.out.b2 2
      have c0 := blk_cell (j := 0) (v := .int .i64 0) HX1.out.b2 rfl
      have c1 := blk_cell (j := 1) (v := .slice none 0 0) HX1.out.b2 rfl
      have c2 := blk_cell (j := 2) (v := .int .i64 0) HX1.out.b2 rfl
      clear hv HI2
      go_wp2
      refine bodyPost_ret (v := .tuple #[.agg #[.int .i64 0, .slice none 0 0, .int .i64 0], .int .i64 0, .int .i64 0, .int .i64 4]) (by simp [results, Tryd.results30, go_sem, c0, c1, c2]) rfl (tells_no HR.out (HX1.out.out _ _ _))
    have hd : decide (1099511627775 ≤ v) = false := decide_eq_false hv
    have HI3 := Lib.hid (HI2.out.trans (if_neg hv))
    have s0 := blk_cell (j := 0) (v := .int .i64 s.f0) HX1.out.b1 rfl
    have s1 := blk_cell (j := 1) (v := .string s.f1) HX1.out.b1 rfl
    have x1 := blk_cell (j := 1) (v := .slice A ts.length c) HX1.out.b0 rfl
    have x2 := blk_cell (j := 2) (v := .int .i64 nx) HX1.out.b0 rfl
    have HV := Lib.hid hv
    clear HI2 hv
    by_cases hk6 : s.f0 < 6
    · have hd6 : decide (s.f0 < 6) = true := decide_eq_true hk6
      have HR := Lib.hid (show R = noTold 1 by rw [HI3.out, if_pos (.inl hk6)])
      have f0 := blk_frozen HX1.out.b2 0
      have f1 := blk_frozen HX1.out.b2 1
      have f2 := blk_frozen HX1.out.b2 2
      have c0 := blk_cell (j := 0) (v := .int .i64 0) HX1.out.b2 rfl
      have c1 := blk_cell (j := 1) (v := .slice none 0 0) HX1.out.b2 rfl
      have c2 := blk_cell (j := 2) (v := .int .i64 0) HX1.out.b2 rfl
      clear hk6 HI3 hF
      go_wp2
      refine bodyPost_ret (v := .tuple #[.agg #[.int .i64 0, .slice none 0 0, .int .i64 0], .int .i64 0, .int .i64 0, .int .i64 1]) (by simp [results, Tryd.results30, go_sem, c0, c1, c2]) rfl (tells_no HR.out (HX1.out.out _ _ _))
    have hd6 : decide (s.f0 < 6) = false := decide_eq_false hk6
    by_cases hk11 : 11 < s.f0
    · have hd11 : decide (11 < s.f0) = true := decide_eq_true hk11
      have HR := Lib.hid (show R = noTold 1 by rw [HI3.out, if_pos (.inr hk11)])
      have f0 := blk_frozen HX1.out.b2 0
      have f1 := blk_frozen HX1.out.b2 1
      have f2 := blk_frozen HX1.out.b2 2
      have c0 := blk_cell (j := 0) (v := .int .i64 0) HX1.out.b2 rfl
      have c1 := blk_cell (j := 1) (v := .slice none 0 0) HX1.out.b2 rfl
      have c2 := blk_cell (j := 2) (v := .int .i64 0) HX1.out.b2 rfl
      clear hk6 hk11 HI3 hF
      go_wp2
      refine bodyPost_ret (v := .tuple #[.agg #[.int .i64 0, .slice none 0 0, .int .i64 0], .int .i64 0, .int .i64 0, .int .i64 1]) (by simp [results, Tryd.results30, go_sem, c0, c1, c2]) rfl (tells_no HR.out (HX1.out.out _ _ _))
    have hd11 : decide (11 < s.f0) = false := decide_eq_false hk11
    have HI4 := Lib.hid (HI3.out.trans (if_neg (show ¬ (s.f0 < 6 ∨ 11 < s.f0) by omega)))
    have HF := Lib.hid hF
    clear HI3 hk6 hk11 hF
    have HT := Lib.hid (fun W (hb : Below w.heap.size w W) => rtabn_calls v ts nx s.f1 hn A c W hc (Kd.C_below HC.out hb))
    obtain ⟨ix, hix⟩ : ∃ ix, idxL (tName s.f1) ts 0 = ix := ⟨_, rfl⟩
    have hia := idxL_at (tName s.f1) ts
    rw [hix] at HT HI4 hia
    clear hix
    go_wp2_with fail
    refine (HT.out _ HX1.out.below).mono ?_
    rintro e w2 ⟨rfl, hb2⟩
    have HX2 := Aside0.mk (HX1.out.step hb2)
    clear hb2 HX1 s0 s1 x0 x1 x2 HT
    rcases hia with rfl | ⟨k, hk, rfl, -⟩
    · have HX1 := HX2
      have HR := Lib.hid (show R = noTold 5 by rw [HI4.out]; rfl)
      have f0 := blk_frozen HX1.out.b2 0
      have f1 := blk_frozen HX1.out.b2 1
      have f2 := blk_frozen HX1.out.b2 2
      have c0 := blk_cell (j := 0) (v := .int .i64 0) HX1.out.b2 rfl
      have c1 := blk_cell (j := 1) (v := .slice none 0 0) HX1.out.b2 rfl
      have c2 := blk_cell (j := 2) (v := .int .i64 0) HX1.out.b2 rfl
      clear HI4
      go_wp2
      refine bodyPost_ret (v := .tuple #[.agg #[.int .i64 0, .slice none 0 0, .int .i64 0], .int .i64 0, .int .i64 0, .int .i64 5]) (by simp [results, Tryd.results30, go_sem, c0, c1, c2]) rfl (tells_no HR.out (HX1.out.out _ _ _))
    have HI5 := Lib.hid (HI4.out.trans (if_neg (by omega)))
    have hk0 : (0 : Int) ≤ (k : Int) := by omega
    have hkl : (k : Int) < (ts.length : Int) := by omega
    have x0 := blk_cell (j := 0) (v := .int .i64 v) HX2.out.b0 rfl
    have x1 := blk_cell (j := 1) (v := .slice A ts.length c) HX2.out.b0 rfl
    have x2 := blk_cell (j := 2) (v := .int .i64 nx) HX2.out.b0 rfl
    clear HI4
    go_wp2_with fail
    refine (copy_calls v ts nx (schB_small HB.out) A c w2 hc (Kd.C_below HC.out HX2.out.below)).mono ?_
    rintro e w3 ⟨u, rfl, hS, hb3⟩
    have hS' := Kd.S_lower hS HX2.out.below.size
    obtain ⟨g, cap, rfl, -⟩ := Kd.S_form hS' (by omega)
    have HX3 := Aside0.mk (HX2.out.step hb3)
    have HS3 := Aside0.mk hS'
    have HY := Aside0.mk (heap_alloc_new w3 (.cells #[.int .i64 v, .slice (some ⟨g, 0, none⟩) ts.length cap, .int .i64 nx] 28))
    clear hS hS' hb3 x0 x1 x2 HX2
    have HX4 := Aside0.mk (HX3.out.step (below_alloc (Below.refl _ _) (.cells #[.int .i64 v, .slice (some ⟨g, 0, none⟩) ts.length cap, .int .i64 nx] 28)))
    have s0 := blk_cell (j := 0) (v := .int .i64 s.f0) HX4.out.b1 rfl
    have s1 := blk_cell (j := 1) (v := .string s.f1) HX4.out.b1 rfl
    have s2 := blk_cell (j := 2) (v := .string s.f2) HX4.out.b1 rfl
    have s3 := blk_cell (j := 3) (v := .slice A3 s.f3.length c3) HX4.out.b1 rfl
    have s4 := blk_cell (j := 4) (v := .slice A4 s.f4.length c4) HX4.out.b1 rfl
    have s5 := blk_cell (j := 5) (v := .slice A5 s.f5.length c5) HX4.out.b1 rfl
    have s6 := blk_cell (j := 6) (v := .slice A6 s.f6.length c6) HX4.out.b1 rfl
    have s7 := blk_cell (j := 7) (v := .bool s.f7) HX4.out.b1 rfl
    have s8 := blk_cell (j := 8) (v := .int .i64 s.f8) HX4.out.b1 rfl
    have s9 := blk_cell (j := 9) (v := .slice A9 s.f9.length c9) HX4.out.b1 rfl
    obtain ⟨oki, cv, iv, hL⟩ := lend HS3.out hk
    have HL := Aside0.mk (hL.step (below_alloc (Below.refl _ _) (.cells #[.int .i64 v, .slice (some ⟨g, 0, none⟩) ts.length cap, .int .i64 nx] 28)))
    have HTB := Lib.hid (schB_tab HB.out _ (List.getElem_mem hk))
    obtain ⟨t, ht⟩ : ∃ t, ts[k] = t := ⟨_, rfl⟩
    have HI6 := HI5
    rw [rd70 _ _ hk] at HI6
    rw [ht] at HL HTB HI6
    obtain ⟨t', id, er, hf⟩ : ∃ t' id er, f t s = (t', id, er) := ⟨_, _, _, rfl⟩
    have hUU := HU.out w _ g ts.length cap ts k oki t cv iv s _ HX4.out.below HL.out HTB.out HS.out hok
    rw [hf] at HI6 hUU
    have HUU := Lib.hid hUU
    obtain ⟨q6, q8, hq6, hq8, hFq⟩ : ∃ q6 q8 : Bool, (s.f0 == 6) = q6 ∧ (s.f0 == 8) = q8 ∧ ((q6 = true ∧ F = 62) ∨ (q6 = false ∧ q8 = true ∧ F = 63) ∨ (q6 = false ∧ q8 = false ∧ F = 64)) := by
      refine ⟨_, _, rfl, rfl, ?_⟩
      rcases HF.out with ⟨h, h'⟩ | ⟨h, h'⟩ | ⟨h, h', h''⟩
      · exact .inl ⟨by rw [h]; rfl, h'⟩
      · exact .inr (.inl ⟨by rw [h]; rfl, by rw [h]; rfl, h'⟩)
      · exact .inr (.inr ⟨by simpa using h, by simpa using h', h''⟩)
    have hv1 : v < 1099511627775 := by have := HV.out; omega
    have hv0 : 0 ≤ v := by have := HB.out; unfold schB at this; simp only [Bool.and_eq_true, decide_eq_true_eq] at this; exact this.1
    clear hL ht hf hUU HI5 HU hd hd6 hd11 HF
    rcases hFq with ⟨rfl, rfl⟩ | ⟨rfl, rfl, rfl⟩ | ⟨rfl, rfl, rfl⟩
    all_goals
      go_wp2_with fail
      refine HUU.out.mono ?_
      rintro e w5 ⟨rfl, hS5, hT5⟩
      have HX5 := Aside0.mk (HX4.out.tch hT5)
      have HY5 := Aside0.mk (hT5.box HY.out)
      have HS5 := Aside0.mk hS5
      have hltz : w3.heap.size < w5.heap.size := lt_of_block HY5.out
      clear s0 s1 s2 s3 s4 s5 s6 s7 s8 s9 hS5 hT5 HUU hq6 hq8
      by_cases her : er = 0
      · subst her
        have HR := Lib.hid (HI6.out.trans (if_neg (by simp)))
        have y0 := blk_cell (j := 0) (v := .int .i64 v) HY5.out rfl
        have g0 := blk_frozen HY5.out 0
        have hq3 : w.heap.size + 1 + 1 < w3.heap.size := lt_of_block HX3.out.b2
        have hX6 := HX5.out.far (j := 0) hq3 (.int .i64 (v + 1))
        have hY6 := blk_put HY5.out 0 (.int .i64 (v + 1)) rfl
        have hS6 := Kd.S_set HS5.out HY5.out (by decide) 0 (.int .i64 (v + 1))
        clear HI6
        go_wp2_with fail
        clear y0 g0
        generalize w5.setCell ⟨w3.heap.size, 0, none⟩ (.int .i64 (v + 1)) = w6 at hX6 hY6 hS6 ⊢
        have y0 := blk_cell (j := 0) (v := .int .i64 (v + 1)) hY6 rfl
        have y1 := blk_cell (j := 1) (v := .slice (some ⟨g, 0, none⟩) ts.length cap) hY6 rfl
        have y2 := blk_cell (j := 2) (v := .int .i64 nx) hY6 rfl
        obtain ⟨oki6, cv6, iv6, hL6⟩ := lend hS6 (by rw [List.length_set]; exact hk)
        rw [List.getElem_set_self] at hL6
        have t0 : w6.cell? ⟨g, k * 5, none⟩ = some (.int .i64 t'.f0) := hL6.cell 0 rfl
        have f0 := blk_frozen hX6.b2 0
        have f1 := blk_frozen hX6.b2 1
        have f2 := blk_frozen hX6.b2 2
        have c0 := blk_cell (j := 0) (v := .int .i64 0) hX6.b2 rfl
        have c1 := blk_cell (j := 1) (v := .slice none 0 0) hX6.b2 rfl
        have c2 := blk_cell (j := 2) (v := .int .i64 0) hX6.b2 rfl
        have HX6 := Aside0.mk hX6
        have HS6 := Aside0.mk hS6
        obtain ⟨gcs, hgb⟩ := hL6.blk
        have n1 : ¬ g = w.heap.size + 1 + 1 := blk_ne hgb hX6.b2 (by decide)
        have n2 : ¬ w3.heap.size = w.heap.size + 1 + 1 := by omega
        clear hX6 hY6 hS6 hL6 hgb
        go_region
        all_goals
          go_wp2
          refine bodyPost_ret (v := .tuple #[.agg #[.int .i64 (v + 1), .slice (some ⟨g, 0, none⟩) ts.length cap, .int .i64 nx], .int .i64 t'.f0, .int .i64 id, .int .i64 0]) (by simp [results, Tryd.results30, go_sem, c0, c1, c2]) rfl ?_
          have hfin := tells_ok (w := w) (R := R) (v := v + 1) (nx := nx) (table := t'.f0) (elem := id) (ts := ts.set k t') (cap := cap) (g := g) (by rw [HR.out]; simp) (Kd.S_drew (S_set3 (by rw [List.length_set]; exact HS6.out) HX6.out.b2)) (below_drew (HX6.out.out (.int .i64 (v + 1)) (.slice (some ⟨g, 0, none⟩) (ts.set k t').length cap) (.int .i64 nx)))
          rw [List.length_set] at hfin
          exact hfin
      · have hd : (er != 0) = true := by simpa using her
        have HX1 := HX5
        have HR := Lib.hid (show R = noTold er by rw [HI6.out]; exact if_pos her)
        have f0 := blk_frozen HX1.out.b2 0
        have f1 := blk_frozen HX1.out.b2 1
        have f2 := blk_frozen HX1.out.b2 2
        have c0 := blk_cell (j := 0) (v := .int .i64 0) HX1.out.b2 rfl
        have c1 := blk_cell (j := 1) (v := .slice none 0 0) HX1.out.b2 rfl
        have c2 := blk_cell (j := 2) (v := .int .i64 0) HX1.out.b2 rfl
        clear HI6 her
        go_wp2
        refine bodyPost_ret (v := .tuple #[.agg #[.int .i64 0, .slice none 0 0, .int .i64 0], .int .i64 0, .int .i64 0, .int .i64 er]) (by simp [results, Tryd.results30, go_sem, c0, c1, c2]) rfl (tells_no HR.out (HX1.out.out _ _ _))
end Go.Proofs.YtjgomlcdmpcoaaaDoor.H
