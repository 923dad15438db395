/- Own texts of this session, packed by its program wip/pp/pack.py: lemmas and walks of functions. -/
import Derived.Test.YtjgomlcdmpcoaaaDoorKEnds1
import Derived.Test.YtjgomlcdmpcoaaaDoorKEnds8
import Derived.Test.YtjgomlcdmpcoaaaDoorKEnds9
import Derived.Test.YtjgomlcdmpcoaaaDoorKEnds10
namespace Go.Proofs.YtjgomlcdmpcoaaaDoor.H
open Go.RowKit Go.Proofs.YtjgomlcdmpcoaaaDoorW.PrintWords Go.Proofs.YtjgomlcdmpcoaaaDoorW.PrintLast Go.Proofs.YtjgomlcdmpcoaaaDoorW.PrintMore
open Go.Proofs.YtjgomlcdmpcoaaaDoor.D Go.Proofs.YtjgomlcdmpcoaaaDoor
set_option linter.unusedVariables false
set_option linter.unusedSimpArgs false
theorem enters174 (args : Array Value) (w : World) : (callFunc 174 args).run Tryd.prog w = .ok (.enter 174 args) w := enters Tryd.func174 (by kernel_rfl) rfl args w
theorem enters180 (args : Array Value) (w : World) : (callFunc 180 args).run Tryd.prog w = .ok (.enter 180 args) w := enters Tryd.func180 (by kernel_rfl) rfl args w
theorem enters149 (args : Array Value) (w : World) : (callFunc 149 args).run Tryd.prog w = .ok (.enter 149 args) w := enters Tryd.func149 (by kernel_rfl) rfl args w
set_option maxRecDepth 100000 in
set_option maxHeartbeats 4000000 in
theorem indexOf_no (E : Nat) (pa : Addr) (sp : Value) (at0 : Int) (ix0 rl0 : Bool) (xs : List S98) (A : Option Addr) (c : Nat) (id : Int) (w : World) (hE : w.heap[E]? = some (.cells #[.pointer (some pa), sp, .int .i64 at0, .bool ix0, .bool rl0] 148 (0, 0)))
    (hp : w.cell? ⟨pa.block, pa.off + 3, none⟩ = some (.slice A xs.length c)) (hC : k98.C w A xs.length xs) (hpE : pa.block ≠ E) (hk : idxL (xId id) xs 0 = -1) :
    Calls Tryd.prog 146 #[.pointer (some ⟨E, 0, none⟩), .int .i64 id] w fun e w' => e = .returned (.bool false) ∧ Below E w w' := by
  have hEl := blk_lt hE
  have HX := Aside0.mk (blk_alloc hE (.cells #[.int .i64 id] 3))
  have hmf : ∀ (fn : Fn) (first cap : Array Value) (w : World), (Instr.makeFunc fn first cap).run Tryd.prog w = .ok (.func fn first cap) w := fun _ _ _ _ => rfl
  have e0 := blk_cell (j := 0) (v := .pointer (some pa)) hE rfl
  have HQ := Lib.hid (idx98 174 #[.pointer (some ⟨w.heap.size, 0, none⟩)] enters174 (fun x => x.f0 == id) A c xs (w.alloc (.cells #[.int .i64 id] 3)) (Kd.C_below hC (below_alloc (Below.refl _ _) _)) (pred174 id w.heap.size _ (by simp) (blk_cell (heap_alloc_new w (.cells #[.int .i64 id] 3)) rfl)))
  rw [idxL_same (fun x : S98 => x.f0 == id) (xId id) (fun x => by unfold xId; rfl), hk] at HQ
  have hl := World.block_lt_of_cell? w _ hp
  clear hC hk
  go_enter Tryd.func146, Tryd.ntmps146
  go_wp2_with fail
  refine HQ.out.mono ?_
  rintro e w1 ⟨rfl, hb1⟩
  have hx1 := blk_below HX.out hb1
  have c2 := blk_cell (j := 2) (v := .int .i64 at0) hx1 rfl
  have f2 := blk_frozen hx1 2
  have hbb : Below E w (w1.setCell ⟨E, 2, none⟩ (.int .i64 (-1))) := Below.setCell (p := ⟨E, 2, none⟩) (((below_alloc (Below.refl _ w) (.cells #[.int .i64 id] 3)).trans (hb1.mono (by simp))).mono (Nat.le_of_lt hEl)) (Nat.le_refl _) _
  have HB := Aside0.mk hbb
  clear hx1 hbb hb1 e0 hE
  go_wp2
  go_ret
  exact ⟨rfl, HB.out⟩
def ElemOk (E : Nat) (pa : Addr) (st : Addr) (k : Nat) (ix rl : Bool) (w : World) : Prop := w.heap[E]? = some (.cells #[.pointer (some pa), .pointer (some st), .int .i64 k, .bool ix, .bool rl] 148 (0, 0))
set_option maxRecDepth 100000 in
set_option maxHeartbeats 4000000 in
theorem indexOf_yes (E : Nat) (pa : Addr) (sp : Value) (at0 : Int) (ix0 rl0 : Bool) (xs : List S98) (ad : Addr) (c : Nat) (id : Int) (k : Nat) (w : World) (hE : w.heap[E]? = some (.cells #[.pointer (some pa), sp, .int .i64 at0, .bool ix0, .bool rl0] 148 (0, 0))) (hsp : sp = .pointer none)
    (hp : w.cell? ⟨pa.block, pa.off + 3, none⟩ = some (.slice (some ad) xs.length c)) (hC : k98.C w (some ad) xs.length xs) (hpE : pa.block ≠ E) (hk : idxL (xId id) xs 0 = (k : Int)) (hkl : k < xs.length) :
    Calls Tryd.prog 146 #[.pointer (some ⟨E, 0, none⟩), .int .i64 id] w fun e w' => e = .returned (.bool true) ∧ Below E w w' ∧ ElemOk E pa ⟨(ad.add (k * 5)).block, (ad.add (k * 5)).off + 4, none⟩ k true rl0 w' := by
  obtain ⟨A, hA⟩ : ∃ A, A = some ad := ⟨_, rfl⟩
  rw [← hA] at hp hC
  have hEl := blk_lt hE
  have HX := Aside0.mk (blk_alloc hE (.cells #[.int .i64 id] 3))
  have hmf : ∀ (fn : Fn) (first cap : Array Value) (w : World), (Instr.makeFunc fn first cap).run Tryd.prog w = .ok (.func fn first cap) w := fun _ _ _ _ => rfl
  have e0 := blk_cell (j := 0) (v := .pointer (some pa)) hE rfl
  have HQ := Lib.hid (idx98 174 #[.pointer (some ⟨w.heap.size, 0, none⟩)] enters174 (fun x => x.f0 == id) A c xs (w.alloc (.cells #[.int .i64 id] 3)) (Kd.C_below hC (below_alloc (Below.refl _ _) _)) (pred174 id w.heap.size _ (by simp) (blk_cell (heap_alloc_new w (.cells #[.int .i64 id] 3)) rfl)))
  rw [idxL_same (fun x : S98 => x.f0 == id) (xId id) (fun x => by unfold xId; rfl), hk] at HQ
  have hl := World.block_lt_of_cell? w _ hp
  rw [hA] at HQ hp
  have hki : (k : Int) < (xs.length : Int) := by omega
  have hk0 : (0 : Int) ≤ (k : Int) := by omega
  subst hsp
  clear hC hk hA
  go_enter Tryd.func146, Tryd.ntmps146
  go_wp2_with fail
  refine HQ.out.mono ?_
  rintro e w1 ⟨rfl, hb1⟩
  have hx1 := blk_below HX.out hb1
  have c2 := blk_cell (j := 2) (v := .int .i64 at0) hx1 rfl
  have f2 := blk_frozen hx1 2
  have HB := Aside0.mk (((below_alloc (Below.refl _ w) (.cells #[.int .i64 id] 3)).trans (hb1.mono (by simp))).mono (Nat.le_of_lt hEl) : Below E w w1)
  have hp1 := pw_cell_below (below_then (below_alloc (Below.refl _ w) (.cells #[.int .i64 id] 3)) (by simp) hb1) hp
  have HX1 := Aside0.mk hx1
  clear hx1 hb1 e0 hE hp
  go_wp2_with fail
  have hx2 := blk_put HX1.out 2 (.int .i64 (k : Int)) rfl
  have hp2 : (w1.setCell ⟨E, 2, none⟩ (.int .i64 (k : Int))).cell? ⟨pa.block, pa.off + 3, none⟩ = some (.slice (some ad) xs.length c) := by
    rw [← hp1]; exact cell_same (Below.heap_setCell _ _ _ _ hpE)
  have HB2 := Aside0.mk (HB.out.setCell (p := ⟨E, 2, none⟩) (Nat.le_refl _) (.int .i64 (k : Int)))
  clear c2 f2 hp1 HX1 HB HX
  generalize w1.setCell ⟨E, 2, none⟩ (.int .i64 (k : Int)) = w2 at hx2 hp2 HB2 ⊢
  have c0 := blk_cell (j := 0) (v := .pointer (some pa)) hx2 rfl
  have c1 := blk_cell (j := 1) (v := .pointer none) hx2 rfl
  have c2 := blk_cell (j := 2) (v := .int .i64 (k : Int)) hx2 rfl
  have c3 := blk_cell (j := 3) (v := .bool ix0) hx2 rfl
  have f1 := blk_frozen hx2 1
  have f3 := blk_frozen hx2 3
  have hpE' : ¬ E = pa.block := Ne.symm hpE
  have HX2 := Aside0.mk hx2
  clear hx2
  go_region
  all_goals
    go_wp2
    go_ret
    exact ⟨rfl, below_drew ((HB2.out.setCell (p := ⟨E, 1, none⟩) (Nat.le_refl _) _).setCell (p := ⟨E, 3, none⟩) (Nat.le_refl _) _), blk_put (blk_put HX2.out 1 _ rfl) 3 _ rfl⟩
theorem eql_f146 (w : World) : (binOp BinOp.eql 176 (Value.func (Fn.func 146) #[] #[]) Value.nilFunc).run Tryd.prog w = .ok (.bool false) w := by kernel_rfl
theorem enters146 (args : Array Value) (w : World) : (callFunc 146 args).run Tryd.prog w = .ok (.enter 146 args) w := enters Tryd.func146 (by kernel_rfl) rfl args w
set_option maxRecDepth 100000 in
set_option maxHeartbeats 4000000 in
theorem find6_yes (X : Nat) (v nx kind table elem : Int) (ts : List S70) (ad : Addr) (c i k : Nat) (w : World) (hkd : finder kind = .func (.func 146) #[] #[]) (hX : w.heap[X]? = some (.cells #[.int .i64 v, .slice (some ad) ts.length c, .int .i64 nx] 28 (0, 0))) (hC : k70.C w (some ad) ts.length ts)
    (hi : idxL (tId table) ts 0 = (i : Int)) (hil : i < ts.length) (hk : idxL (xId elem) ts[i].f3 0 = (k : Int)) (hkl : k < ts[i].f3.length) :
    Calls Tryd.prog 107 #[.pointer (some ⟨X, 0, none⟩), .int .i64 kind, .int .i64 table, .int .i64 elem] w fun e w' => ∃ E a3, e = .returned (.tuple #[.pointer (some ⟨E, 0, none⟩), .bool true]) ∧ Below w.heap.size w w' ∧
      ElemOk E (ad.add (i * 5)) ⟨(Addr.add a3 (k * 5)).block, (Addr.add a3 (k * 5)).off + 4, none⟩ k true false w' ∧ w'.cell? ⟨(Addr.add a3 (k * 5)).block, (Addr.add a3 (k * 5)).off + 4, none⟩ = some (.int .i64 ts[i].f3[k].f4) := by
  have hXl := blk_lt hX
  obtain ⟨W0, hW0⟩ : ∃ W0, W0 = (w.alloc (.cells #[.int .i64 table] 3)).alloc (.map #[] 0) := ⟨_, rfl⟩
  have hB0 : Below w.heap.size w W0 := by rw [hW0]; exact below_alloc (below_alloc (Below.refl _ _) _) _
  have hm0 : W0.heap[w.heap.size + 1]? = some (.map #[] 0) := by
    have := heap_alloc_new (w.alloc (.cells #[.int .i64 table] 3)) (.map #[] 0)
    rw [hW0]
    simpa using this
  have ht0 : W0.heap[w.heap.size]? = some (.cells #[.int .i64 table] 3 (0, 0)) := by rw [hW0]; exact blk_alloc (heap_alloc_new w _) _
  obtain ⟨W1, W2, W3, W4, W5, W6, i1, i2, i3, i4, i5, i6, hm6, hg6⟩ := finds_made W0 (w.heap.size + 1) hm0
  have hB6 : Below w.heap.size w W6 := hB0.grown hg6 hB0.size (fun k hk => by injection hk with hk; omega)
  have ht6 : W6.heap[w.heap.size]? = some (.cells #[.int .i64 table] 3 (0, 0)) := (hg6.block _ (blk_lt ht0) (fun e => by injection e with e; omega)).trans ht0
  have hlook := finds_look hm6 kind
  rw [hkd] at hlook
  have hx6 := blk_below hX hB6
  have x1 := blk_cell (j := 1) (v := .slice (some ad) ts.length c) hx6 rfl
  have HQ := Lib.hid (idx70 149 #[.pointer (some ⟨w.heap.size, 0, none⟩)] enters149 (fun x => x.f0 == table) (some ad) c ts W6 (Kd.C_below hC hB6) (pred149 table w.heap.size W6 (blk_lt ht6) (blk_cell ht6 rfl)))
  rw [idxL_same (fun x : S70 => x.f0 == table) (tId table) (fun x => by unfold tId; rfl), hi] at HQ
  have hmm := @run_makeMap Tryd.prog
  have hmf : ∀ (fn : Fn) (first cap : Array Value) (w : World), (Instr.makeFunc fn first cap).run Tryd.prog w = .ok (.func fn first cap) w := fun _ _ _ _ => rfl
  have hii : (i : Int) < (ts.length : Int) := by omega
  have hi0 : (0 : Int) ≤ (i : Int) := by omega
  have HC := Aside0.mk hC
  have HB6 := Aside0.mk hB6
  have HX6 := Aside0.mk hx6
  rw [hW0] at i1
  clear hC hX hi hB0 hm0 ht0 hm6 hg6 hB6 ht6 hx6 hkd
  clear hW0
  go_enter Tryd.func107, Tryd.ntmps107
  have HE := Lib.hid enters146
  go_wp2_with fail
  refine HQ.out.mono ?_
  rintro e w7 ⟨rfl, hb7⟩
  have hx7 := blk_below HX6.out hb7
  have HX7 := Aside0.mk hx7
  have HB7 := Aside0.mk (below_then HB6.out HB6.out.size hb7)
  have x1' := blk_cell (j := 1) (v := .slice (some ad) ts.length c) hx7 rfl
  clear hb7 hx7 x1 i1 i2 i3 i4 i5 i6 hlook HX6 HB6 HQ
  have heq := eql_f146
  go_wp2_with fail
  have hB8 := below_then HB7.out HB7.out.size (below_alloc (Below.refl _ w7) (.cells #[.pointer (some (ad.add (i * 5))), .pointer none, .int .i64 0, .bool false, .bool false] 148))
  obtain ⟨ad', A2, c2, A3, c3, eA, h0, -, -, h3, -, -, -, hd3, hinds⟩ := at_T70 HC.out (i : Int) (by omega) (by omega)
  rw [rd70 _ _ hil] at h0 h3 hd3 hinds
  simp only [Int.toNat_natCast] at h0 h3
  obtain rfl : ad = ad' := by injection eA
  obtain ⟨a3, A5, c5, eA3, -, -, -, -, e4, -, -⟩ := at_T98 hinds (k : Int) (by omega) (by omega)
  rw [rd98 _ _ hkl] at e4
  simp only [Int.toNat_natCast] at e4
  subst eA3
  have hlt := World.block_lt_of_cell? w _ h0
  have hpE : (ad.add (i * 5)).block ≠ w7.heap.size := by have := HB7.out.size; omega
  refine (indexOf_yes w7.heap.size (ad.add (i * 5)) (.pointer none) 0 false false ts[i].f3 a3 c3 elem k _ (heap_alloc_new w7 _) rfl (pw_cell_below hB8 h3) (Kd.C_below hinds hB8) hpE hk hkl).mono ?_
  rintro e w9 ⟨rfl, hb9, hel⟩
  have hB9 := HB7.out.trans (show Below w.heap.size w7 w9 from ((below_alloc (Below.refl _ w7) _).trans hb9).mono HB7.out.size)
  have HF := Aside0.mk (And.intro hB9 (And.intro hel (pw_cell_below hB9 e4)))
  clear hb9 hel hB9 hB8 h0 h3 e4 hinds eA heq x1' hmm hmf
  go_wp2
  go_ret2
  exact ⟨w7.heap.size, a3, rfl, HF.out.1, HF.out.2.1, HF.out.2.2⟩
end Go.Proofs.YtjgomlcdmpcoaaaDoor.H
namespace Go.Proofs.YtjgomlcdmpcoaaaDoor.H
open Go.RowKit Go.Proofs.YtjgomlcdmpcoaaaDoorW.PrintWords Go.Proofs.YtjgomlcdmpcoaaaDoorW.PrintLast Go.Proofs.YtjgomlcdmpcoaaaDoorW.PrintMore
open Go.Proofs.YtjgomlcdmpcoaaaDoor.D Go.Proofs.YtjgomlcdmpcoaaaDoor
set_option linter.unusedVariables false
set_option linter.unusedSimpArgs false
set_option maxRecDepth 100000 in
set_option maxHeartbeats 4000000 in
theorem colOf_no (E : Nat) (pa : Addr) (sp : Value) (at0 : Int) (ix0 rl0 : Bool) (xs : List S75) (A : Option Addr) (c : Nat) (id : Int) (rule : Bool) (w : World) (hE : w.heap[E]? = some (.cells #[.pointer (some pa), sp, .int .i64 at0, .bool ix0, .bool rl0] 148 (0, 0)))
    (hp : w.cell? ⟨pa.block, pa.off + 2, none⟩ = some (.slice A xs.length c)) (hC : k75.C w A xs.length xs) (hpE : pa.block ≠ E) (hk : idxL (cId id) xs 0 = -1) :
    Calls Tryd.prog 175 #[.pointer (some ⟨E, 0, none⟩), .int .i64 id, .bool rule] w fun e w' => e = .returned (.bool false) ∧ Below E w w' := by
  have hEl := blk_lt hE
  have HX := Aside0.mk (blk_alloc hE (.cells #[.int .i64 id] 3))
  have hmf : ∀ (fn : Fn) (first cap : Array Value) (w : World), (Instr.makeFunc fn first cap).run Tryd.prog w = .ok (.func fn first cap) w := fun _ _ _ _ => rfl
  have e0 := blk_cell (j := 0) (v := .pointer (some pa)) hE rfl
  have HQ := Lib.hid (idx75 180 #[.pointer (some ⟨w.heap.size, 0, none⟩)] enters180 (fun x => x.f0 == id) A c xs (w.alloc (.cells #[.int .i64 id] 3)) (Kd.C_below hC (below_alloc (Below.refl _ _) _)) (pred180 id w.heap.size _ (by simp) (blk_cell (heap_alloc_new w (.cells #[.int .i64 id] 3)) rfl)))
  rw [idxL_same (fun x : S75 => x.f0 == id) (cId id) (fun x => by unfold cId; rfl), hk] at HQ
  have hl := World.block_lt_of_cell? w _ hp
  clear hC hk
  go_enter Tryd.func175, Tryd.ntmps175
  go_wp2_with fail
  refine HQ.out.mono ?_
  rintro e w1 ⟨rfl, hb1⟩
  have hx1 := blk_below HX.out hb1
  have c2 := blk_cell (j := 2) (v := .int .i64 at0) hx1 rfl
  have f2 := blk_frozen hx1 2
  have hbb : Below E w (w1.setCell ⟨E, 2, none⟩ (.int .i64 (-1))) := Below.setCell (p := ⟨E, 2, none⟩) (((below_alloc (Below.refl _ w) (.cells #[.int .i64 id] 3)).trans (hb1.mono (by simp))).mono (Nat.le_of_lt hEl)) (Nat.le_refl _) _
  have HB := Aside0.mk hbb
  clear hx1 hbb hb1 e0 hE
  go_wp2
  go_ret
  exact ⟨rfl, HB.out⟩
set_option maxRecDepth 100000 in
set_option maxHeartbeats 4000000 in
theorem colOf_yes (E : Nat) (pa : Addr) (sp : Value) (at0 : Int) (ix0 rl0 : Bool) (xs : List S75) (ad : Addr) (c : Nat) (id : Int) (rule : Bool) (k : Nat) (w : World) (hE : w.heap[E]? = some (.cells #[.pointer (some pa), sp, .int .i64 at0, .bool ix0, .bool rl0] 148 (0, 0))) (hsp : sp = .pointer none)
    (hp : w.cell? ⟨pa.block, pa.off + 2, none⟩ = some (.slice (some ad) xs.length c)) (hC : k75.C w (some ad) xs.length xs) (hpE : pa.block ≠ E) (hk : idxL (cId id) xs 0 = (k : Int)) (hkl : k < xs.length) :
    Calls Tryd.prog 175 #[.pointer (some ⟨E, 0, none⟩), .int .i64 id, .bool rule] w fun e w' => e = .returned (.bool true) ∧ Below E w w' ∧ ElemOk E pa ⟨(ad.add (k * 9)).block, (ad.add (k * 9)).off + (if rule = true then 4 else 3), none⟩ k ix0 rule w' := by
  obtain ⟨A, hA⟩ : ∃ A, A = some ad := ⟨_, rfl⟩
  rw [← hA] at hp hC
  have hEl := blk_lt hE
  have HX := Aside0.mk (blk_alloc hE (.cells #[.int .i64 id] 3))
  have hmf : ∀ (fn : Fn) (first cap : Array Value) (w : World), (Instr.makeFunc fn first cap).run Tryd.prog w = .ok (.func fn first cap) w := fun _ _ _ _ => rfl
  have e0 := blk_cell (j := 0) (v := .pointer (some pa)) hE rfl
  have HQ := Lib.hid (idx75 180 #[.pointer (some ⟨w.heap.size, 0, none⟩)] enters180 (fun x => x.f0 == id) A c xs (w.alloc (.cells #[.int .i64 id] 3)) (Kd.C_below hC (below_alloc (Below.refl _ _) _)) (pred180 id w.heap.size _ (by simp) (blk_cell (heap_alloc_new w (.cells #[.int .i64 id] 3)) rfl)))
  rw [idxL_same (fun x : S75 => x.f0 == id) (cId id) (fun x => by unfold cId; rfl), hk] at HQ
  have hl := World.block_lt_of_cell? w _ hp
  rw [hA] at HQ hp
  have hki : (k : Int) < (xs.length : Int) := by omega
  have hk0 : (0 : Int) ≤ (k : Int) := by omega
  subst hsp
  clear hC hk hA
  go_enter Tryd.func175, Tryd.ntmps175
  go_wp2_with fail
  refine HQ.out.mono ?_
  rintro e w1 ⟨rfl, hb1⟩
  have hx1 := blk_below HX.out hb1
  have c2 := blk_cell (j := 2) (v := .int .i64 at0) hx1 rfl
  have f2 := blk_frozen hx1 2
  have HB := Aside0.mk (((below_alloc (Below.refl _ w) (.cells #[.int .i64 id] 3)).trans (hb1.mono (by simp))).mono (Nat.le_of_lt hEl) : Below E w w1)
  have hp1 := pw_cell_below (below_then (below_alloc (Below.refl _ w) (.cells #[.int .i64 id] 3)) (by simp) hb1) hp
  have HX1 := Aside0.mk hx1
  clear hx1 hb1 e0 hE hp
  go_wp2_with fail
  have hx2 := blk_put HX1.out 2 (.int .i64 (k : Int)) rfl
  have hp2 : (w1.setCell ⟨E, 2, none⟩ (.int .i64 (k : Int))).cell? ⟨pa.block, pa.off + 2, none⟩ = some (.slice (some ad) xs.length c) := by
    rw [← hp1]; exact cell_same (Below.heap_setCell _ _ _ _ hpE)
  have HB2 := Aside0.mk (HB.out.setCell (p := ⟨E, 2, none⟩) (Nat.le_refl _) (.int .i64 (k : Int)))
  clear c2 f2 hp1 HX1 HB HX
  generalize w1.setCell ⟨E, 2, none⟩ (.int .i64 (k : Int)) = w2 at hx2 hp2 HB2 ⊢
  have c0 := blk_cell (j := 0) (v := .pointer (some pa)) hx2 rfl
  have c1 := blk_cell (j := 1) (v := .pointer none) hx2 rfl
  have c2 := blk_cell (j := 2) (v := .int .i64 (k : Int)) hx2 rfl
  have c4 := blk_cell (j := 4) (v := .bool rl0) hx2 rfl
  have f1 := blk_frozen hx2 1
  have f4 := blk_frozen hx2 4
  have hpE' : ¬ E = pa.block := Ne.symm hpE
  have HX2 := Aside0.mk hx2
  clear hx2
  cases rule
  all_goals
    go_wp2_with fail
    go_region
    all_goals
      go_wp2
      go_ret
      first
        | exact ⟨rfl, below_drew ((HB2.out.setCell (p := ⟨E, 1, none⟩) (Nat.le_refl _) _).setCell (p := ⟨E, 4, none⟩) (Nat.le_refl _) _), blk_put (blk_put HX2.out 1 _ rfl) 4 _ rfl⟩
        | exact ⟨rfl, below_drew (((HB2.out.setCell (p := ⟨E, 1, none⟩) (Nat.le_refl _) _).setCell (p := ⟨E, 4, none⟩) (Nat.le_refl _) _).setCell (p := ⟨E, 1, none⟩) (Nat.le_refl _) _), blk_put (blk_put (blk_put HX2.out 1 _ rfl) 4 _ rfl) 1 _ rfl⟩
end Go.Proofs.YtjgomlcdmpcoaaaDoor.H
namespace Go.Proofs.YtjgomlcdmpcoaaaDoor.H
open Go.RowKit Go.Proofs.YtjgomlcdmpcoaaaDoorW.PrintWords Go.Proofs.YtjgomlcdmpcoaaaDoorW.PrintLast Go.Proofs.YtjgomlcdmpcoaaaDoorW.PrintMore
open Go.Proofs.YtjgomlcdmpcoaaaDoor.D Go.Proofs.YtjgomlcdmpcoaaaDoor
set_option linter.unusedVariables false
set_option linter.unusedSimpArgs false
theorem eql_f147 (w : World) : (binOp BinOp.eql 176 (Value.func (Fn.func 147) #[] #[]) Value.nilFunc).run Tryd.prog w = .ok (.bool false) w := by kernel_rfl
theorem eql_f148 (w : World) : (binOp BinOp.eql 176 (Value.func (Fn.func 148) #[] #[]) Value.nilFunc).run Tryd.prog w = .ok (.bool false) w := by kernel_rfl
theorem eql_nilF (w : World) : (binOp BinOp.eql 176 Value.nilFunc Value.nilFunc).run Tryd.prog w = .ok (.bool true) w := by kernel_rfl
theorem enters147 (args : Array Value) (w : World) : (callFunc 147 args).run Tryd.prog w = .ok (.enter 147 args) w := enters Tryd.func147 (by kernel_rfl) rfl args w
theorem enters148 (args : Array Value) (w : World) : (callFunc 148 args).run Tryd.prog w = .ok (.enter 148 args) w := enters Tryd.func148 (by kernel_rfl) rfl args w
set_option maxRecDepth 100000 in
set_option maxHeartbeats 4000000 in
theorem ccol_no (E : Nat) (pa : Addr) (sp : Value) (at0 : Int) (ix0 rl0 : Bool) (xs : List S75) (A : Option Addr) (c : Nat) (id : Int) (w : World) (hE : w.heap[E]? = some (.cells #[.pointer (some pa), sp, .int .i64 at0, .bool ix0, .bool rl0] 148 (0, 0)))
    (hp : w.cell? ⟨pa.block, pa.off + 2, none⟩ = some (.slice A xs.length c)) (hC : k75.C w A xs.length xs) (hpE : pa.block ≠ E) (hk : idxL (cId id) xs 0 = -1) :
    Calls Tryd.prog 147 #[.pointer (some ⟨E, 0, none⟩), .int .i64 id] w fun e w' => e = .returned (.bool false) ∧ Below E w w' := by
  have H := Lib.hid (colOf_no E pa sp at0 ix0 rl0 xs A c id false w hE hp hC hpE hk)
  clear hE hp hC hpE hk
  go_enter Tryd.func147, Tryd.ntmps147
  go_wp2_with fail
  refine H.out.mono ?_
  rintro e w1 ⟨rfl, hb1⟩
  go_wp2
  go_ret
  exact ⟨rfl, hb1⟩
set_option maxRecDepth 100000 in
set_option maxHeartbeats 4000000 in
theorem ccol_yes (E : Nat) (pa : Addr) (sp : Value) (at0 : Int) (ix0 rl0 : Bool) (xs : List S75) (ad : Addr) (c : Nat) (id : Int) (k : Nat) (w : World) (hE : w.heap[E]? = some (.cells #[.pointer (some pa), sp, .int .i64 at0, .bool ix0, .bool rl0] 148 (0, 0))) (hsp : sp = .pointer none)
    (hp : w.cell? ⟨pa.block, pa.off + 2, none⟩ = some (.slice (some ad) xs.length c)) (hC : k75.C w (some ad) xs.length xs) (hpE : pa.block ≠ E) (hk : idxL (cId id) xs 0 = (k : Int)) (hkl : k < xs.length) :
    Calls Tryd.prog 147 #[.pointer (some ⟨E, 0, none⟩), .int .i64 id] w fun e w' => e = .returned (.bool true) ∧ Below E w w' ∧ ElemOk E pa ⟨(ad.add (k * 9)).block, (ad.add (k * 9)).off + 3, none⟩ k ix0 false w' := by
  have H := Lib.hid (colOf_yes E pa sp at0 ix0 rl0 xs ad c id false k w hE hsp hp hC hpE hk hkl)
  clear hE hp hC hpE hk hsp
  go_enter Tryd.func147, Tryd.ntmps147
  go_wp2_with fail
  refine H.out.mono ?_
  rintro e w1 ⟨rfl, hb1, he1⟩
  go_wp2
  go_ret
  exact ⟨rfl, hb1, he1⟩
set_option maxRecDepth 100000 in
set_option maxHeartbeats 4000000 in
theorem cnul_no (E : Nat) (pa : Addr) (sp : Value) (at0 : Int) (ix0 rl0 : Bool) (xs : List S75) (A : Option Addr) (c : Nat) (id : Int) (w : World) (hE : w.heap[E]? = some (.cells #[.pointer (some pa), sp, .int .i64 at0, .bool ix0, .bool rl0] 148 (0, 0)))
    (hp : w.cell? ⟨pa.block, pa.off + 2, none⟩ = some (.slice A xs.length c)) (hC : k75.C w A xs.length xs) (hpE : pa.block ≠ E) (hk : idxL (cId id) xs 0 = -1) :
    Calls Tryd.prog 148 #[.pointer (some ⟨E, 0, none⟩), .int .i64 id] w fun e w' => e = .returned (.bool false) ∧ Below E w w' := by
  have H := Lib.hid (colOf_no E pa sp at0 ix0 rl0 xs A c id true w hE hp hC hpE hk)
  clear hE hp hC hpE hk
  go_enter Tryd.func148, Tryd.ntmps148
  go_wp2_with fail
  refine H.out.mono ?_
  rintro e w1 ⟨rfl, hb1⟩
  go_wp2
  go_ret
  exact ⟨rfl, hb1⟩
set_option maxRecDepth 100000 in
set_option maxHeartbeats 4000000 in
theorem cnul_yes (E : Nat) (pa : Addr) (sp : Value) (at0 : Int) (ix0 rl0 : Bool) (xs : List S75) (ad : Addr) (c : Nat) (id : Int) (k : Nat) (w : World) (hE : w.heap[E]? = some (.cells #[.pointer (some pa), sp, .int .i64 at0, .bool ix0, .bool rl0] 148 (0, 0))) (hsp : sp = .pointer none)
    (hp : w.cell? ⟨pa.block, pa.off + 2, none⟩ = some (.slice (some ad) xs.length c)) (hC : k75.C w (some ad) xs.length xs) (hpE : pa.block ≠ E) (hk : idxL (cId id) xs 0 = (k : Int)) (hkl : k < xs.length) :
    Calls Tryd.prog 148 #[.pointer (some ⟨E, 0, none⟩), .int .i64 id] w fun e w' => e = .returned (.bool true) ∧ Below E w w' ∧ ElemOk E pa ⟨(ad.add (k * 9)).block, (ad.add (k * 9)).off + 4, none⟩ k ix0 true w' := by
  have H := Lib.hid (colOf_yes E pa sp at0 ix0 rl0 xs ad c id true k w hE hsp hp hC hpE hk hkl)
  clear hE hp hC hpE hk hsp
  go_enter Tryd.func148, Tryd.ntmps148
  go_wp2_with fail
  refine H.out.mono ?_
  rintro e w1 ⟨rfl, hb1, he1⟩
  go_wp2
  go_ret
  exact ⟨rfl, hb1, he1⟩
set_option maxRecDepth 100000 in
set_option maxHeartbeats 4000000 in
theorem find_ccol_yes (X : Nat) (v nx kind table elem : Int) (ts : List S70) (ad : Addr) (c i k : Nat) (w : World) (hkd : finder kind = .func (.func 147) #[] #[]) (hX : w.heap[X]? = some (.cells #[.int .i64 v, .slice (some ad) ts.length c, .int .i64 nx] 28 (0, 0))) (hC : k70.C w (some ad) ts.length ts)
    (hi : idxL (tId table) ts 0 = (i : Int)) (hil : i < ts.length) (hk : idxL (cId elem) ts[i].f2 0 = (k : Int)) (hkl : k < ts[i].f2.length) :
    Calls Tryd.prog 107 #[.pointer (some ⟨X, 0, none⟩), .int .i64 kind, .int .i64 table, .int .i64 elem] w fun e w' => ∃ E a3, e = .returned (.tuple #[.pointer (some ⟨E, 0, none⟩), .bool true]) ∧ Below w.heap.size w w' ∧
      ElemOk E (ad.add (i * 5)) ⟨(Addr.add a3 (k * 9)).block, (Addr.add a3 (k * 9)).off + 3, none⟩ k false false w' ∧ w'.cell? ⟨(Addr.add a3 (k * 9)).block, (Addr.add a3 (k * 9)).off + 3, none⟩ = some (.int .i64 ts[i].f2[k].f3) := by
  have hXl := blk_lt hX
  obtain ⟨W0, hW0⟩ : ∃ W0, W0 = (w.alloc (.cells #[.int .i64 table] 3)).alloc (.map #[] 0) := ⟨_, rfl⟩
  have hB0 : Below w.heap.size w W0 := by rw [hW0]; exact below_alloc (below_alloc (Below.refl _ _) _) _
  have hm0 : W0.heap[w.heap.size + 1]? = some (.map #[] 0) := by
    have := heap_alloc_new (w.alloc (.cells #[.int .i64 table] 3)) (.map #[] 0)
    rw [hW0]
    simpa using this
  have ht0 : W0.heap[w.heap.size]? = some (.cells #[.int .i64 table] 3 (0, 0)) := by rw [hW0]; exact blk_alloc (heap_alloc_new w _) _
  obtain ⟨W1, W2, W3, W4, W5, W6, i1, i2, i3, i4, i5, i6, hm6, hg6⟩ := finds_made W0 (w.heap.size + 1) hm0
  have hB6 : Below w.heap.size w W6 := hB0.grown hg6 hB0.size (fun k hk => by injection hk with hk; omega)
  have ht6 : W6.heap[w.heap.size]? = some (.cells #[.int .i64 table] 3 (0, 0)) := (hg6.block _ (blk_lt ht0) (fun e => by injection e with e; omega)).trans ht0
  have hlook := finds_look hm6 kind
  rw [hkd] at hlook
  have hx6 := blk_below hX hB6
  have x1 := blk_cell (j := 1) (v := .slice (some ad) ts.length c) hx6 rfl
  have HQ := Lib.hid (idx70 149 #[.pointer (some ⟨w.heap.size, 0, none⟩)] enters149 (fun x => x.f0 == table) (some ad) c ts W6 (Kd.C_below hC hB6) (pred149 table w.heap.size W6 (blk_lt ht6) (blk_cell ht6 rfl)))
  rw [idxL_same (fun x : S70 => x.f0 == table) (tId table) (fun x => by unfold tId; rfl), hi] at HQ
  have hmm := @run_makeMap Tryd.prog
  have hmf : ∀ (fn : Fn) (first cap : Array Value) (w : World), (Instr.makeFunc fn first cap).run Tryd.prog w = .ok (.func fn first cap) w := fun _ _ _ _ => rfl
  have hii : (i : Int) < (ts.length : Int) := by omega
  have hi0 : (0 : Int) ≤ (i : Int) := by omega
  have HC := Aside0.mk hC
  have HB6 := Aside0.mk hB6
  have HX6 := Aside0.mk hx6
  rw [hW0] at i1
  clear hC hX hi hB0 hm0 ht0 hm6 hg6 hB6 ht6 hx6 hkd
  clear hW0
  go_enter Tryd.func107, Tryd.ntmps107
  have HE := Lib.hid enters147
  go_wp2_with fail
  refine HQ.out.mono ?_
  rintro e w7 ⟨rfl, hb7⟩
  have hx7 := blk_below HX6.out hb7
  have HX7 := Aside0.mk hx7
  have HB7 := Aside0.mk (below_then HB6.out HB6.out.size hb7)
  have x1' := blk_cell (j := 1) (v := .slice (some ad) ts.length c) hx7 rfl
  clear hb7 hx7 x1 i1 i2 i3 i4 i5 i6 hlook HX6 HB6 HQ
  have heq := eql_f147
  go_wp2_with fail
  have hB8 := below_then HB7.out HB7.out.size (below_alloc (Below.refl _ w7) (.cells #[.pointer (some (ad.add (i * 5))), .pointer none, .int .i64 0, .bool false, .bool false] 148))
  obtain ⟨ad', A3, c3, A2, c2, eA, h0, -, h3, -, -, hd3, hinds, -, -⟩ := at_T70 HC.out (i : Int) (by omega) (by omega)
  rw [rd70 _ _ hil] at h0 h3 hd3 hinds
  simp only [Int.toNat_natCast] at h0 h3
  obtain rfl : ad = ad' := by injection eA
  obtain ⟨a3, eA3, -, -, -, q3, q4, -⟩ := at_T75 hinds (k : Int) (by omega) (by omega)
  have e4 := q3
  rw [rd75 _ _ hkl] at e4
  simp only [Int.toNat_natCast] at e4
  subst eA3
  have hlt := World.block_lt_of_cell? w _ h0
  have hpE : (ad.add (i * 5)).block ≠ w7.heap.size := by have := HB7.out.size; omega
  refine (ccol_yes w7.heap.size (ad.add (i * 5)) (.pointer none) 0 false false ts[i].f2 a3 c3 elem k _ (heap_alloc_new w7 _) rfl (pw_cell_below hB8 h3) (Kd.C_below hinds hB8) hpE hk hkl).mono ?_
  rintro e w9 ⟨rfl, hb9, hel⟩
  have hB9 := HB7.out.trans (show Below w.heap.size w7 w9 from ((below_alloc (Below.refl _ w7) _).trans hb9).mono HB7.out.size)
  have HF := Aside0.mk (And.intro hB9 (And.intro hel (pw_cell_below hB9 e4)))
  clear hb9 hel hB9 hB8 h0 h3 e4 hinds eA heq x1' hmm hmf
  go_wp2
  go_ret2
  exact ⟨w7.heap.size, a3, rfl, HF.out.1, HF.out.2.1, HF.out.2.2⟩
set_option maxRecDepth 100000 in
set_option maxHeartbeats 4000000 in
theorem find_cnul_yes (X : Nat) (v nx kind table elem : Int) (ts : List S70) (ad : Addr) (c i k : Nat) (w : World) (hkd : finder kind = .func (.func 148) #[] #[]) (hX : w.heap[X]? = some (.cells #[.int .i64 v, .slice (some ad) ts.length c, .int .i64 nx] 28 (0, 0))) (hC : k70.C w (some ad) ts.length ts)
    (hi : idxL (tId table) ts 0 = (i : Int)) (hil : i < ts.length) (hk : idxL (cId elem) ts[i].f2 0 = (k : Int)) (hkl : k < ts[i].f2.length) :
    Calls Tryd.prog 107 #[.pointer (some ⟨X, 0, none⟩), .int .i64 kind, .int .i64 table, .int .i64 elem] w fun e w' => ∃ E a3, e = .returned (.tuple #[.pointer (some ⟨E, 0, none⟩), .bool true]) ∧ Below w.heap.size w w' ∧
      ElemOk E (ad.add (i * 5)) ⟨(Addr.add a3 (k * 9)).block, (Addr.add a3 (k * 9)).off + 4, none⟩ k false true w' ∧ w'.cell? ⟨(Addr.add a3 (k * 9)).block, (Addr.add a3 (k * 9)).off + 4, none⟩ = some (.int .i64 ts[i].f2[k].f4) := by
  have hXl := blk_lt hX
  obtain ⟨W0, hW0⟩ : ∃ W0, W0 = (w.alloc (.cells #[.int .i64 table] 3)).alloc (.map #[] 0) := ⟨_, rfl⟩
  have hB0 : Below w.heap.size w W0 := by rw [hW0]; exact below_alloc (below_alloc (Below.refl _ _) _) _
  have hm0 : W0.heap[w.heap.size + 1]? = some (.map #[] 0) := by
    have := heap_alloc_new (w.alloc (.cells #[.int .i64 table] 3)) (.map #[] 0)
    rw [hW0]
    simpa using this
  have ht0 : W0.heap[w.heap.size]? = some (.cells #[.int .i64 table] 3 (0, 0)) := by rw [hW0]; exact blk_alloc (heap_alloc_new w _) _
  obtain ⟨W1, W2, W3, W4, W5, W6, i1, i2, i3, i4, i5, i6, hm6, hg6⟩ := finds_made W0 (w.heap.size + 1) hm0
  have hB6 : Below w.heap.size w W6 := hB0.grown hg6 hB0.size (fun k hk => by injection hk with hk; omega)
  have ht6 : W6.heap[w.heap.size]? = some (.cells #[.int .i64 table] 3 (0, 0)) := (hg6.block _ (blk_lt ht0) (fun e => by injection e with e; omega)).trans ht0
  have hlook := finds_look hm6 kind
  rw [hkd] at hlook
  have hx6 := blk_below hX hB6
  have x1 := blk_cell (j := 1) (v := .slice (some ad) ts.length c) hx6 rfl
  have HQ := Lib.hid (idx70 149 #[.pointer (some ⟨w.heap.size, 0, none⟩)] enters149 (fun x => x.f0 == table) (some ad) c ts W6 (Kd.C_below hC hB6) (pred149 table w.heap.size W6 (blk_lt ht6) (blk_cell ht6 rfl)))
  rw [idxL_same (fun x : S70 => x.f0 == table) (tId table) (fun x => by unfold tId; rfl), hi] at HQ
  have hmm := @run_makeMap Tryd.prog
  have hmf : ∀ (fn : Fn) (first cap : Array Value) (w : World), (Instr.makeFunc fn first cap).run Tryd.prog w = .ok (.func fn first cap) w := fun _ _ _ _ => rfl
  have hii : (i : Int) < (ts.length : Int) := by omega
  have hi0 : (0 : Int) ≤ (i : Int) := by omega
  have HC := Aside0.mk hC
  have HB6 := Aside0.mk hB6
  have HX6 := Aside0.mk hx6
  rw [hW0] at i1
  clear hC hX hi hB0 hm0 ht0 hm6 hg6 hB6 ht6 hx6 hkd
  clear hW0
  go_enter Tryd.func107, Tryd.ntmps107
  have HE := Lib.hid enters148
  go_wp2_with fail
  refine HQ.out.mono ?_
  rintro e w7 ⟨rfl, hb7⟩
  have hx7 := blk_below HX6.out hb7
  have HX7 := Aside0.mk hx7
  have HB7 := Aside0.mk (below_then HB6.out HB6.out.size hb7)
  have x1' := blk_cell (j := 1) (v := .slice (some ad) ts.length c) hx7 rfl
  clear hb7 hx7 x1 i1 i2 i3 i4 i5 i6 hlook HX6 HB6 HQ
  have heq := eql_f148
  go_wp2_with fail
  have hB8 := below_then HB7.out HB7.out.size (below_alloc (Below.refl _ w7) (.cells #[.pointer (some (ad.add (i * 5))), .pointer none, .int .i64 0, .bool false, .bool false] 148))
  obtain ⟨ad', A3, c3, A2, c2, eA, h0, -, h3, -, -, hd3, hinds, -, -⟩ := at_T70 HC.out (i : Int) (by omega) (by omega)
  rw [rd70 _ _ hil] at h0 h3 hd3 hinds
  simp only [Int.toNat_natCast] at h0 h3
  obtain rfl : ad = ad' := by injection eA
  obtain ⟨a3, eA3, -, -, -, q3, q4, -⟩ := at_T75 hinds (k : Int) (by omega) (by omega)
  have e4 := q4
  rw [rd75 _ _ hkl] at e4
  simp only [Int.toNat_natCast] at e4
  subst eA3
  have hlt := World.block_lt_of_cell? w _ h0
  have hpE : (ad.add (i * 5)).block ≠ w7.heap.size := by have := HB7.out.size; omega
  refine (cnul_yes w7.heap.size (ad.add (i * 5)) (.pointer none) 0 false false ts[i].f2 a3 c3 elem k _ (heap_alloc_new w7 _) rfl (pw_cell_below hB8 h3) (Kd.C_below hinds hB8) hpE hk hkl).mono ?_
  rintro e w9 ⟨rfl, hb9, hel⟩
  have hB9 := HB7.out.trans (show Below w.heap.size w7 w9 from ((below_alloc (Below.refl _ w7) _).trans hb9).mono HB7.out.size)
  have HF := Aside0.mk (And.intro hB9 (And.intro hel (pw_cell_below hB9 e4)))
  clear hb9 hel hB9 hB8 h0 h3 e4 hinds eA heq x1' hmm hmf
  go_wp2
  go_ret2
  exact ⟨w7.heap.size, a3, rfl, HF.out.1, HF.out.2.1, HF.out.2.2⟩
set_option maxRecDepth 100000 in
set_option maxHeartbeats 4000000 in
theorem find_indexOf_no (X : Nat) (v nx kind table elem : Int) (ts : List S70) (ad : Addr) (c i : Nat) (w : World) (hkd : finder kind = .func (.func 146) #[] #[]) (hX : w.heap[X]? = some (.cells #[.int .i64 v, .slice (some ad) ts.length c, .int .i64 nx] 28 (0, 0))) (hC : k70.C w (some ad) ts.length ts)
    (hi : idxL (tId table) ts 0 = (i : Int)) (hil : i < ts.length) (hk : idxL (xId elem) ts[i].f3 0 = -1) :
    Calls Tryd.prog 107 #[.pointer (some ⟨X, 0, none⟩), .int .i64 kind, .int .i64 table, .int .i64 elem] w fun e w' => (∃ p, e = .returned (.tuple #[.pointer p, .bool false])) ∧ Below w.heap.size w w' := by
  have hXl := blk_lt hX
  obtain ⟨W0, hW0⟩ : ∃ W0, W0 = (w.alloc (.cells #[.int .i64 table] 3)).alloc (.map #[] 0) := ⟨_, rfl⟩
  have hB0 : Below w.heap.size w W0 := by rw [hW0]; exact below_alloc (below_alloc (Below.refl _ _) _) _
  have hm0 : W0.heap[w.heap.size + 1]? = some (.map #[] 0) := by
    have := heap_alloc_new (w.alloc (.cells #[.int .i64 table] 3)) (.map #[] 0)
    rw [hW0]
    simpa using this
  have ht0 : W0.heap[w.heap.size]? = some (.cells #[.int .i64 table] 3 (0, 0)) := by rw [hW0]; exact blk_alloc (heap_alloc_new w _) _
  obtain ⟨W1, W2, W3, W4, W5, W6, i1, i2, i3, i4, i5, i6, hm6, hg6⟩ := finds_made W0 (w.heap.size + 1) hm0
  have hB6 : Below w.heap.size w W6 := hB0.grown hg6 hB0.size (fun k hk => by injection hk with hk; omega)
  have ht6 : W6.heap[w.heap.size]? = some (.cells #[.int .i64 table] 3 (0, 0)) := (hg6.block _ (blk_lt ht0) (fun e => by injection e with e; omega)).trans ht0
  have hlook := finds_look hm6 kind
  rw [hkd] at hlook
  have hx6 := blk_below hX hB6
  have x1 := blk_cell (j := 1) (v := .slice (some ad) ts.length c) hx6 rfl
  have HQ := Lib.hid (idx70 149 #[.pointer (some ⟨w.heap.size, 0, none⟩)] enters149 (fun x => x.f0 == table) (some ad) c ts W6 (Kd.C_below hC hB6) (pred149 table w.heap.size W6 (blk_lt ht6) (blk_cell ht6 rfl)))
  rw [idxL_same (fun x : S70 => x.f0 == table) (tId table) (fun x => by unfold tId; rfl), hi] at HQ
  have hmm := @run_makeMap Tryd.prog
  have hmf : ∀ (fn : Fn) (first cap : Array Value) (w : World), (Instr.makeFunc fn first cap).run Tryd.prog w = .ok (.func fn first cap) w := fun _ _ _ _ => rfl
  have hii : (i : Int) < (ts.length : Int) := by omega
  have hi0 : (0 : Int) ≤ (i : Int) := by omega
  have HC := Aside0.mk hC
  have HB6 := Aside0.mk hB6
  have HX6 := Aside0.mk hx6
  rw [hW0] at i1
  clear hC hX hi hB0 hm0 ht0 hm6 hg6 hB6 ht6 hx6 hkd
  clear hW0
  go_enter Tryd.func107, Tryd.ntmps107
  have HE := Lib.hid enters146
  go_wp2_with fail
  refine HQ.out.mono ?_
  rintro e w7 ⟨rfl, hb7⟩
  have hx7 := blk_below HX6.out hb7
  have HX7 := Aside0.mk hx7
  have HB7 := Aside0.mk (below_then HB6.out HB6.out.size hb7)
  have x1' := blk_cell (j := 1) (v := .slice (some ad) ts.length c) hx7 rfl
  clear hb7 hx7 x1 i1 i2 i3 i4 i5 i6 hlook HX6 HB6 HQ
  have heq := eql_f146
  go_wp2_with fail
  have hB8 := below_then HB7.out HB7.out.size (below_alloc (Below.refl _ w7) (.cells #[.pointer (some (ad.add (i * 5))), .pointer none, .int .i64 0, .bool false, .bool false] 148))
  obtain ⟨ad', A2, c2, A3, c3, eA, h0, -, -, h3, -, -, -, hd3, hinds⟩ := at_T70 HC.out (i : Int) (by omega) (by omega)
  rw [rd70 _ _ hil] at h0 h3 hd3 hinds
  simp only [Int.toNat_natCast] at h0 h3
  obtain rfl : ad = ad' := by injection eA
  have hlt := World.block_lt_of_cell? w _ h0
  have hpE : (ad.add (i * 5)).block ≠ w7.heap.size := by have := HB7.out.size; omega
  refine (indexOf_no w7.heap.size (ad.add (i * 5)) (.pointer none) 0 false false ts[i].f3 A3 c3 elem _ (heap_alloc_new w7 _) (pw_cell_below hB8 h3) (Kd.C_below hinds hB8) hpE hk).mono ?_
  rintro e w9 ⟨rfl, hb9⟩
  have hB9 := HB7.out.trans (show Below w.heap.size w7 w9 from ((below_alloc (Below.refl _ w7) _).trans hb9).mono HB7.out.size)
  have HF := Aside0.mk hB9
  clear hb9 hB9 hB8 h0 h3 hinds eA heq x1' hmm hmf
  go_wp2
  go_ret2
  exact ⟨⟨_, rfl⟩, HF.out⟩
set_option maxRecDepth 100000 in
set_option maxHeartbeats 4000000 in
theorem find_ccol_no (X : Nat) (v nx kind table elem : Int) (ts : List S70) (ad : Addr) (c i : Nat) (w : World) (hkd : finder kind = .func (.func 147) #[] #[]) (hX : w.heap[X]? = some (.cells #[.int .i64 v, .slice (some ad) ts.length c, .int .i64 nx] 28 (0, 0))) (hC : k70.C w (some ad) ts.length ts)
    (hi : idxL (tId table) ts 0 = (i : Int)) (hil : i < ts.length) (hk : idxL (cId elem) ts[i].f2 0 = -1) :
    Calls Tryd.prog 107 #[.pointer (some ⟨X, 0, none⟩), .int .i64 kind, .int .i64 table, .int .i64 elem] w fun e w' => (∃ p, e = .returned (.tuple #[.pointer p, .bool false])) ∧ Below w.heap.size w w' := by
  have hXl := blk_lt hX
  obtain ⟨W0, hW0⟩ : ∃ W0, W0 = (w.alloc (.cells #[.int .i64 table] 3)).alloc (.map #[] 0) := ⟨_, rfl⟩
  have hB0 : Below w.heap.size w W0 := by rw [hW0]; exact below_alloc (below_alloc (Below.refl _ _) _) _
  have hm0 : W0.heap[w.heap.size + 1]? = some (.map #[] 0) := by
    have := heap_alloc_new (w.alloc (.cells #[.int .i64 table] 3)) (.map #[] 0)
    rw [hW0]
    simpa using this
  have ht0 : W0.heap[w.heap.size]? = some (.cells #[.int .i64 table] 3 (0, 0)) := by rw [hW0]; exact blk_alloc (heap_alloc_new w _) _
  obtain ⟨W1, W2, W3, W4, W5, W6, i1, i2, i3, i4, i5, i6, hm6, hg6⟩ := finds_made W0 (w.heap.size + 1) hm0
  have hB6 : Below w.heap.size w W6 := hB0.grown hg6 hB0.size (fun k hk => by injection hk with hk; omega)
  have ht6 : W6.heap[w.heap.size]? = some (.cells #[.int .i64 table] 3 (0, 0)) := (hg6.block _ (blk_lt ht0) (fun e => by injection e with e; omega)).trans ht0
  have hlook := finds_look hm6 kind
  rw [hkd] at hlook
  have hx6 := blk_below hX hB6
  have x1 := blk_cell (j := 1) (v := .slice (some ad) ts.length c) hx6 rfl
  have HQ := Lib.hid (idx70 149 #[.pointer (some ⟨w.heap.size, 0, none⟩)] enters149 (fun x => x.f0 == table) (some ad) c ts W6 (Kd.C_below hC hB6) (pred149 table w.heap.size W6 (blk_lt ht6) (blk_cell ht6 rfl)))
  rw [idxL_same (fun x : S70 => x.f0 == table) (tId table) (fun x => by unfold tId; rfl), hi] at HQ
  have hmm := @run_makeMap Tryd.prog
  have hmf : ∀ (fn : Fn) (first cap : Array Value) (w : World), (Instr.makeFunc fn first cap).run Tryd.prog w = .ok (.func fn first cap) w := fun _ _ _ _ => rfl
  have hii : (i : Int) < (ts.length : Int) := by omega
  have hi0 : (0 : Int) ≤ (i : Int) := by omega
  have HC := Aside0.mk hC
  have HB6 := Aside0.mk hB6
  have HX6 := Aside0.mk hx6
  rw [hW0] at i1
  clear hC hX hi hB0 hm0 ht0 hm6 hg6 hB6 ht6 hx6 hkd
  clear hW0
  go_enter Tryd.func107, Tryd.ntmps107
  have HE := Lib.hid enters147
  go_wp2_with fail
  refine HQ.out.mono ?_
  rintro e w7 ⟨rfl, hb7⟩
  have hx7 := blk_below HX6.out hb7
  have HX7 := Aside0.mk hx7
  have HB7 := Aside0.mk (below_then HB6.out HB6.out.size hb7)
  have x1' := blk_cell (j := 1) (v := .slice (some ad) ts.length c) hx7 rfl
  clear hb7 hx7 x1 i1 i2 i3 i4 i5 i6 hlook HX6 HB6 HQ
  have heq := eql_f147
  go_wp2_with fail
  have hB8 := below_then HB7.out HB7.out.size (below_alloc (Below.refl _ w7) (.cells #[.pointer (some (ad.add (i * 5))), .pointer none, .int .i64 0, .bool false, .bool false] 148))
  obtain ⟨ad', A3, c3, A2, c2, eA, h0, -, h3, -, -, hd3, hinds, -, -⟩ := at_T70 HC.out (i : Int) (by omega) (by omega)
  rw [rd70 _ _ hil] at h0 h3 hd3 hinds
  simp only [Int.toNat_natCast] at h0 h3
  obtain rfl : ad = ad' := by injection eA
  have hlt := World.block_lt_of_cell? w _ h0
  have hpE : (ad.add (i * 5)).block ≠ w7.heap.size := by have := HB7.out.size; omega
  refine (ccol_no w7.heap.size (ad.add (i * 5)) (.pointer none) 0 false false ts[i].f2 A3 c3 elem _ (heap_alloc_new w7 _) (pw_cell_below hB8 h3) (Kd.C_below hinds hB8) hpE hk).mono ?_
  rintro e w9 ⟨rfl, hb9⟩
  have hB9 := HB7.out.trans (show Below w.heap.size w7 w9 from ((below_alloc (Below.refl _ w7) _).trans hb9).mono HB7.out.size)
  have HF := Aside0.mk hB9
  clear hb9 hB9 hB8 h0 h3 hinds eA heq x1' hmm hmf
  go_wp2
  go_ret2
  exact ⟨⟨_, rfl⟩, HF.out⟩
set_option maxRecDepth 100000 in
set_option maxHeartbeats 4000000 in
theorem find_cnul_no (X : Nat) (v nx kind table elem : Int) (ts : List S70) (ad : Addr) (c i : Nat) (w : World) (hkd : finder kind = .func (.func 148) #[] #[]) (hX : w.heap[X]? = some (.cells #[.int .i64 v, .slice (some ad) ts.length c, .int .i64 nx] 28 (0, 0))) (hC : k70.C w (some ad) ts.length ts)
    (hi : idxL (tId table) ts 0 = (i : Int)) (hil : i < ts.length) (hk : idxL (cId elem) ts[i].f2 0 = -1) :
    Calls Tryd.prog 107 #[.pointer (some ⟨X, 0, none⟩), .int .i64 kind, .int .i64 table, .int .i64 elem] w fun e w' => (∃ p, e = .returned (.tuple #[.pointer p, .bool false])) ∧ Below w.heap.size w w' := by
  have hXl := blk_lt hX
  obtain ⟨W0, hW0⟩ : ∃ W0, W0 = (w.alloc (.cells #[.int .i64 table] 3)).alloc (.map #[] 0) := ⟨_, rfl⟩
  have hB0 : Below w.heap.size w W0 := by rw [hW0]; exact below_alloc (below_alloc (Below.refl _ _) _) _
  have hm0 : W0.heap[w.heap.size + 1]? = some (.map #[] 0) := by
    have := heap_alloc_new (w.alloc (.cells #[.int .i64 table] 3)) (.map #[] 0)
    rw [hW0]
    simpa using this
  have ht0 : W0.heap[w.heap.size]? = some (.cells #[.int .i64 table] 3 (0, 0)) := by rw [hW0]; exact blk_alloc (heap_alloc_new w _) _
  obtain ⟨W1, W2, W3, W4, W5, W6, i1, i2, i3, i4, i5, i6, hm6, hg6⟩ := finds_made W0 (w.heap.size + 1) hm0
  have hB6 : Below w.heap.size w W6 := hB0.grown hg6 hB0.size (fun k hk => by injection hk with hk; omega)
  have ht6 : W6.heap[w.heap.size]? = some (.cells #[.int .i64 table] 3 (0, 0)) := (hg6.block _ (blk_lt ht0) (fun e => by injection e with e; omega)).trans ht0
  have hlook := finds_look hm6 kind
  rw [hkd] at hlook
  have hx6 := blk_below hX hB6
  have x1 := blk_cell (j := 1) (v := .slice (some ad) ts.length c) hx6 rfl
  have HQ := Lib.hid (idx70 149 #[.pointer (some ⟨w.heap.size, 0, none⟩)] enters149 (fun x => x.f0 == table) (some ad) c ts W6 (Kd.C_below hC hB6) (pred149 table w.heap.size W6 (blk_lt ht6) (blk_cell ht6 rfl)))
  rw [idxL_same (fun x : S70 => x.f0 == table) (tId table) (fun x => by unfold tId; rfl), hi] at HQ
  have hmm := @run_makeMap Tryd.prog
  have hmf : ∀ (fn : Fn) (first cap : Array Value) (w : World), (Instr.makeFunc fn first cap).run Tryd.prog w = .ok (.func fn first cap) w := fun _ _ _ _ => rfl
  have hii : (i : Int) < (ts.length : Int) := by omega
  have hi0 : (0 : Int) ≤ (i : Int) := by omega
  have HC := Aside0.mk hC
  have HB6 := Aside0.mk hB6
  have HX6 := Aside0.mk hx6
  rw [hW0] at i1
  clear hC hX hi hB0 hm0 ht0 hm6 hg6 hB6 ht6 hx6 hkd
  clear hW0
  go_enter Tryd.func107, Tryd.ntmps107
  have HE := Lib.hid enters148
  go_wp2_with fail
  refine HQ.out.mono ?_
  rintro e w7 ⟨rfl, hb7⟩
  have hx7 := blk_below HX6.out hb7
  have HX7 := Aside0.mk hx7
  have HB7 := Aside0.mk (below_then HB6.out HB6.out.size hb7)
  have x1' := blk_cell (j := 1) (v := .slice (some ad) ts.length c) hx7 rfl
  clear hb7 hx7 x1 i1 i2 i3 i4 i5 i6 hlook HX6 HB6 HQ
  have heq := eql_f148
  go_wp2_with fail
  have hB8 := below_then HB7.out HB7.out.size (below_alloc (Below.refl _ w7) (.cells #[.pointer (some (ad.add (i * 5))), .pointer none, .int .i64 0, .bool false, .bool false] 148))
  obtain ⟨ad', A3, c3, A2, c2, eA, h0, -, h3, -, -, hd3, hinds, -, -⟩ := at_T70 HC.out (i : Int) (by omega) (by omega)
  rw [rd70 _ _ hil] at h0 h3 hd3 hinds
  simp only [Int.toNat_natCast] at h0 h3
  obtain rfl : ad = ad' := by injection eA
  have hlt := World.block_lt_of_cell? w _ h0
  have hpE : (ad.add (i * 5)).block ≠ w7.heap.size := by have := HB7.out.size; omega
  refine (cnul_no w7.heap.size (ad.add (i * 5)) (.pointer none) 0 false false ts[i].f2 A3 c3 elem _ (heap_alloc_new w7 _) (pw_cell_below hB8 h3) (Kd.C_below hinds hB8) hpE hk).mono ?_
  rintro e w9 ⟨rfl, hb9⟩
  have hB9 := HB7.out.trans (show Below w.heap.size w7 w9 from ((below_alloc (Below.refl _ w7) _).trans hb9).mono HB7.out.size)
  have HF := Aside0.mk hB9
  clear hb9 hB9 hB8 h0 h3 hinds eA heq x1' hmm hmf
  go_wp2
  go_ret2
  exact ⟨⟨_, rfl⟩, HF.out⟩
set_option maxRecDepth 100000 in
set_option maxHeartbeats 4000000 in
theorem find_nil (X : Nat) (v nx kind table elem : Int) (ts : List S70) (A : Option Addr) (c : Nat) (w : World) (hkd : finder kind = .nilFunc) (hX : w.heap[X]? = some (.cells #[.int .i64 v, .slice A ts.length c, .int .i64 nx] 28 (0, 0))) (hC : k70.C w A ts.length ts) :
    Calls Tryd.prog 107 #[.pointer (some ⟨X, 0, none⟩), .int .i64 kind, .int .i64 table, .int .i64 elem] w fun e w' => (∃ p, e = .returned (.tuple #[.pointer p, .bool false])) ∧ Below w.heap.size w w' := by
  have hXl := blk_lt hX
  obtain ⟨W0, hW0⟩ : ∃ W0, W0 = (w.alloc (.cells #[.int .i64 table] 3)).alloc (.map #[] 0) := ⟨_, rfl⟩
  have hB0 : Below w.heap.size w W0 := by rw [hW0]; exact below_alloc (below_alloc (Below.refl _ _) _) _
  have hm0 : W0.heap[w.heap.size + 1]? = some (.map #[] 0) := by
    have := heap_alloc_new (w.alloc (.cells #[.int .i64 table] 3)) (.map #[] 0)
    rw [hW0]
    simpa using this
  have ht0 : W0.heap[w.heap.size]? = some (.cells #[.int .i64 table] 3 (0, 0)) := by rw [hW0]; exact blk_alloc (heap_alloc_new w _) _
  obtain ⟨W1, W2, W3, W4, W5, W6, i1, i2, i3, i4, i5, i6, hm6, hg6⟩ := finds_made W0 (w.heap.size + 1) hm0
  have hB6 : Below w.heap.size w W6 := hB0.grown hg6 hB0.size (fun k hk => by injection hk with hk; omega)
  have ht6 : W6.heap[w.heap.size]? = some (.cells #[.int .i64 table] 3 (0, 0)) := (hg6.block _ (blk_lt ht0) (fun e => by injection e with e; omega)).trans ht0
  have hlook := finds_look hm6 kind
  rw [hkd] at hlook
  have hx6 := blk_below hX hB6
  have x1 := blk_cell (j := 1) (v := .slice A ts.length c) hx6 rfl
  have HQ := Lib.hid (idx70 149 #[.pointer (some ⟨w.heap.size, 0, none⟩)] enters149 (fun x => x.f0 == table) A c ts W6 (Kd.C_below hC hB6) (pred149 table w.heap.size W6 (blk_lt ht6) (blk_cell ht6 rfl)))
  rw [idxL_same (fun x : S70 => x.f0 == table) (tId table) (fun x => by unfold tId; rfl)] at HQ
  have hmm := @run_makeMap Tryd.prog
  have hmf : ∀ (fn : Fn) (first cap : Array Value) (w : World), (Instr.makeFunc fn first cap).run Tryd.prog w = .ok (.func fn first cap) w := fun _ _ _ _ => rfl
  have HC := Aside0.mk hC
  have HB6 := Aside0.mk hB6
  have HX6 := Aside0.mk hx6
  rw [hW0] at i1
  clear hC hX hB0 hm0 ht0 hm6 hg6 hB6 ht6 hx6 hkd
  clear hW0
  go_enter Tryd.func107, Tryd.ntmps107
  go_wp2_with fail
  refine HQ.out.mono ?_
  rintro e w7 ⟨rfl, hb7⟩
  have hx7 := blk_below HX6.out hb7
  have HX7 := Aside0.mk hx7
  have HB7 := Aside0.mk (below_then HB6.out HB6.out.size hb7)
  have x1' := blk_cell (j := 1) (v := .slice A ts.length c) hx7 rfl
  clear hb7 hx7 x1 i1 i2 i3 i4 i5 i6 hlook HX6 HB6 HQ
  have heq := eql_nilF
  go_wp2
  go_ret2
  exact ⟨⟨none, rfl⟩, HB7.out⟩
set_option maxRecDepth 100000 in
set_option maxHeartbeats 4000000 in
theorem find_notab (X : Nat) (v nx kind table elem : Int) (ts : List S70) (A : Option Addr) (c : Nat) (F : Nat) (w : World) (hkd : finder kind = .func (.func F) #[] #[]) (hi : idxL (tId table) ts 0 = -1) (heqF : ∀ w, (binOp BinOp.eql 176 (Value.func (Fn.func F) #[] #[]) Value.nilFunc).run Tryd.prog w = .ok (.bool false) w) (hX : w.heap[X]? = some (.cells #[.int .i64 v, .slice A ts.length c, .int .i64 nx] 28 (0, 0))) (hC : k70.C w A ts.length ts) :
    Calls Tryd.prog 107 #[.pointer (some ⟨X, 0, none⟩), .int .i64 kind, .int .i64 table, .int .i64 elem] w fun e w' => (∃ p, e = .returned (.tuple #[.pointer p, .bool false])) ∧ Below w.heap.size w w' := by
  have hXl := blk_lt hX
  obtain ⟨W0, hW0⟩ : ∃ W0, W0 = (w.alloc (.cells #[.int .i64 table] 3)).alloc (.map #[] 0) := ⟨_, rfl⟩
  have hB0 : Below w.heap.size w W0 := by rw [hW0]; exact below_alloc (below_alloc (Below.refl _ _) _) _
  have hm0 : W0.heap[w.heap.size + 1]? = some (.map #[] 0) := by
    have := heap_alloc_new (w.alloc (.cells #[.int .i64 table] 3)) (.map #[] 0)
    rw [hW0]
    simpa using this
  have ht0 : W0.heap[w.heap.size]? = some (.cells #[.int .i64 table] 3 (0, 0)) := by rw [hW0]; exact blk_alloc (heap_alloc_new w _) _
  obtain ⟨W1, W2, W3, W4, W5, W6, i1, i2, i3, i4, i5, i6, hm6, hg6⟩ := finds_made W0 (w.heap.size + 1) hm0
  have hB6 : Below w.heap.size w W6 := hB0.grown hg6 hB0.size (fun k hk => by injection hk with hk; omega)
  have ht6 : W6.heap[w.heap.size]? = some (.cells #[.int .i64 table] 3 (0, 0)) := (hg6.block _ (blk_lt ht0) (fun e => by injection e with e; omega)).trans ht0
  have hlook := finds_look hm6 kind
  rw [hkd] at hlook
  have hx6 := blk_below hX hB6
  have x1 := blk_cell (j := 1) (v := .slice A ts.length c) hx6 rfl
  have HQ := Lib.hid (idx70 149 #[.pointer (some ⟨w.heap.size, 0, none⟩)] enters149 (fun x => x.f0 == table) A c ts W6 (Kd.C_below hC hB6) (pred149 table w.heap.size W6 (blk_lt ht6) (blk_cell ht6 rfl)))
  rw [idxL_same (fun x : S70 => x.f0 == table) (tId table) (fun x => by unfold tId; rfl), hi] at HQ
  have hmm := @run_makeMap Tryd.prog
  have hmf : ∀ (fn : Fn) (first cap : Array Value) (w : World), (Instr.makeFunc fn first cap).run Tryd.prog w = .ok (.func fn first cap) w := fun _ _ _ _ => rfl
  have HC := Aside0.mk hC
  have HB6 := Aside0.mk hB6
  have HX6 := Aside0.mk hx6
  rw [hW0] at i1
  clear hC hX hi hB0 hm0 ht0 hm6 hg6 hB6 ht6 hx6 hkd
  clear hW0
  go_enter Tryd.func107, Tryd.ntmps107
  go_wp2_with fail
  refine HQ.out.mono ?_
  rintro e w7 ⟨rfl, hb7⟩
  have hx7 := blk_below HX6.out hb7
  have HX7 := Aside0.mk hx7
  have HB7 := Aside0.mk (below_then HB6.out HB6.out.size hb7)
  have x1' := blk_cell (j := 1) (v := .slice A ts.length c) hx7 rfl
  clear hb7 hx7 x1 i1 i2 i3 i4 i5 i6 hlook HX6 HB6 HQ
  have heq := heqF
  go_wp2
  go_ret2
  exact ⟨⟨none, rfl⟩, HB7.out⟩
end Go.Proofs.YtjgomlcdmpcoaaaDoor.H
namespace Go.Proofs.YtjgomlcdmpcoaaaDoor.H
open Go.RowKit Go.Proofs.YtjgomlcdmpcoaaaDoorW.PrintWords Go.Proofs.YtjgomlcdmpcoaaaDoorW.PrintLast Go.Proofs.YtjgomlcdmpcoaaaDoorW.PrintMore
open Go.Proofs.YtjgomlcdmpcoaaaDoor.D Go.Proofs.YtjgomlcdmpcoaaaDoor
set_option linter.unusedVariables false
set_option linter.unusedSimpArgs false
def tS (ts : List S70) (kind table elem : Int) : Int := if 0 ≤ idxL (tId table) ts 0 then elemI (rd_T70 ts (idxL (tId table) ts 0)) kind elem else -1
def StIn (ts : List S70) (s : Int) : Prop := ∃ t ∈ ts, (∃ c ∈ t.f2, s = c.f3 ∨ s = c.f4) ∨ (∃ x ∈ t.f3, s = x.f4)
def FndS (ts : List S70) (s : Int) (w w' : World) (e : Ending) : Prop :=
  Below w.heap.size w w' ∧ ((s = -1 ∧ ∃ p, e = .returned (.tuple #[.pointer p, .bool false])) ∨ (∃ E pa st k ix rl, e = .returned (.tuple #[.pointer (some ⟨E, 0, none⟩), .bool true]) ∧ ElemOk E pa st k ix rl w' ∧ w'.cell? st = some (.int .i64 s) ∧ StIn ts s))
theorem finder_cases (kind : Int) : (finder kind = .nilFunc ∧ ¬ (6 ≤ kind ∧ kind ≤ 11)) ∨ (finder kind = .func (.func 146) #[] #[] ∧ (kind = 6 ∨ kind = 7)) ∨ (finder kind = .func (.func 147) #[] #[] ∧ (kind = 8 ∨ kind = 9)) ∨ (finder kind = .func (.func 148) #[] #[] ∧ (kind = 10 ∨ kind = 11)) := by
  unfold finder
  by_cases h1 : kind = 6 ∨ kind = 7
  · rw [if_pos h1]; exact .inr (.inl ⟨rfl, h1⟩)
  rw [if_neg h1]
  by_cases h2 : kind = 8 ∨ kind = 9
  · rw [if_pos h2]; exact .inr (.inr (.inl ⟨rfl, h2⟩))
  rw [if_neg h2]
  by_cases h3 : kind = 10 ∨ kind = 11
  · rw [if_pos h3]; exact .inr (.inr (.inr ⟨rfl, h3⟩))
  rw [if_neg h3]
  exact .inl ⟨rfl, by omega⟩
theorem elemI_x (t : S70) {kind : Int} (h : kind = 6 ∨ kind = 7) (elem : Int) : elemI t kind elem = if 0 ≤ idxL (xId elem) t.f3 0 then (rd_T98 t.f3 (idxL (xId elem) t.f3 0)).f4 else -1 := by unfold elemI; rw [if_pos h]
theorem elemI_c (t : S70) {kind : Int} (h : kind = 8 ∨ kind = 9) (elem : Int) : elemI t kind elem = if 0 ≤ idxL (cId elem) t.f2 0 then (rd_T75 t.f2 (idxL (cId elem) t.f2 0)).f3 else -1 := by
  unfold elemI; rw [if_neg (by omega), if_pos (by omega), if_pos (show kind < 10 by omega)]
theorem elemI_n (t : S70) {kind : Int} (h : kind = 10 ∨ kind = 11) (elem : Int) : elemI t kind elem = if 0 ≤ idxL (cId elem) t.f2 0 then (rd_T75 t.f2 (idxL (cId elem) t.f2 0)).f4 else -1 := by
  unfold elemI; rw [if_neg (by omega), if_pos (by omega), if_neg (show ¬ kind < 10 by omega)]
theorem elemI_0 (t : S70) {kind : Int} (h : ¬ (6 ≤ kind ∧ kind ≤ 11)) (elem : Int) : elemI t kind elem = -1 := by
  unfold elemI; rw [if_neg (by omega), if_neg (by omega)]
theorem fnd_no {ts : List S70} {s : Int} {w w' : World} {e : Ending} (hs : s = -1) (h : (∃ p, e = .returned (.tuple #[.pointer p, .bool false])) ∧ Below w.heap.size w w') : FndS ts s w w' e := ⟨h.2, .inl ⟨hs, h.1⟩⟩
theorem find_calls (X : Nat) (v nx kind table elem : Int) (ts : List S70) (A : Option Addr) (c : Nat) (w : World) (hX : w.heap[X]? = some (.cells #[.int .i64 v, .slice A ts.length c, .int .i64 nx] 28 (0, 0))) (hC : k70.C w A ts.length ts) :
    Calls Tryd.prog 107 #[.pointer (some ⟨X, 0, none⟩), .int .i64 kind, .int .i64 table, .int .i64 elem] w fun e w' => FndS ts (tS ts kind table elem) w w' e := by
  rcases idxL_at (tId table) ts with hi | ⟨i, hil, hi, -⟩
  · have hs : tS ts kind table elem = -1 := by unfold tS; rw [hi, if_neg (by omega)]
    rcases finder_cases kind with ⟨h, -⟩ | ⟨h, -⟩ | ⟨h, -⟩ | ⟨h, -⟩
    · exact (find_nil X v nx kind table elem ts A c w h hX hC).mono fun e w' h => fnd_no hs h
    · exact (find_notab X v nx kind table elem ts A c 146 w h hi eql_f146 hX hC).mono fun e w' h => fnd_no hs h
    · exact (find_notab X v nx kind table elem ts A c 147 w h hi eql_f147 hX hC).mono fun e w' h => fnd_no hs h
    · exact (find_notab X v nx kind table elem ts A c 148 w h hi eql_f148 hX hC).mono fun e w' h => fnd_no hs h
  · have hs : tS ts kind table elem = elemI ts[i] kind elem := by unfold tS; rw [hi, if_pos (by omega), rd70 _ _ hil]
    have hm : ts[i] ∈ ts := List.getElem_mem hil
    rw [hs]
    obtain ⟨ad, A2, c2, A3, c3, eA, -⟩ := at_T70 hC (i : Int) (by omega) (by omega)
    subst eA
    rcases finder_cases kind with ⟨h, hk⟩ | ⟨h, hk⟩ | ⟨h, hk⟩ | ⟨h, hk⟩
    · exact (find_nil X v nx kind table elem ts (some ad) c w h hX hC).mono fun e w' h => fnd_no (elemI_0 _ hk elem) h
    · rw [elemI_x _ hk]
      rcases idxL_at (xId elem) ts[i].f3 with hq | ⟨k, hkl, hq, -⟩
      · exact (find_indexOf_no X v nx kind table elem ts ad c i w h hX hC hi hil hq).mono fun e w' h => fnd_no (by rw [hq, if_neg (by omega)]) h
      · rw [hq, if_pos (by omega), rd98 _ _ hkl]
        exact (find6_yes X v nx kind table elem ts ad c i k w h hX hC hi hil hq hkl).mono fun e w' ⟨E, a3, he, hb, hel, hst⟩ => ⟨hb, .inr ⟨E, _, _, k, true, false, he, hel, hst, _, hm, .inr ⟨_, List.getElem_mem hkl, rfl⟩⟩⟩
    · rw [elemI_c _ hk]
      rcases idxL_at (cId elem) ts[i].f2 with hq | ⟨k, hkl, hq, -⟩
      · exact (find_ccol_no X v nx kind table elem ts ad c i w h hX hC hi hil hq).mono fun e w' h => fnd_no (by rw [hq, if_neg (by omega)]) h
      · rw [hq, if_pos (by omega), rd75 _ _ hkl]
        exact (find_ccol_yes X v nx kind table elem ts ad c i k w h hX hC hi hil hq hkl).mono fun e w' ⟨E, a3, he, hb, hel, hst⟩ => ⟨hb, .inr ⟨E, _, _, k, false, false, he, hel, hst, _, hm, .inl ⟨_, List.getElem_mem hkl, .inl rfl⟩⟩⟩
    · rw [elemI_n _ hk]
      rcases idxL_at (cId elem) ts[i].f2 with hq | ⟨k, hkl, hq, -⟩
      · exact (find_cnul_no X v nx kind table elem ts ad c i w h hX hC hi hil hq).mono fun e w' h => fnd_no (by rw [hq, if_neg (by omega)]) h
      · rw [hq, if_pos (by omega), rd75 _ _ hkl]
        exact (find_cnul_yes X v nx kind table elem ts ad c i k w h hX hC hi hil hq hkl).mono fun e w' ⟨E, a3, he, hb, hel, hst⟩ => ⟨hb, .inr ⟨E, _, _, k, false, true, he, hel, hst, _, hm, .inl ⟨_, List.getElem_mem hkl, .inr rfl⟩⟩⟩
theorem stIn_pos {v nx : Int} {ts : List S70} (h : schB v ts nx = true) {s : Int} (hs : StIn ts s) : 0 ≤ s ∧ s ≤ 4 := by
  obtain ⟨t, ht, hq⟩ := hs
  have hb := schB_tab h t ht
  unfold tableB at hb
  simp only [Bool.and_eq_true, decide_eq_true_eq] at hb
  obtain ⟨_, _, _, _, _, _, h7, h8, _⟩ := hb
  rcases hq with ⟨c, hc, hq⟩ | ⟨x, hx, hq⟩
  · have := tcolsB_all _ _ _ h7 c hc
    unfold columnB stateB at this
    simp only [Bool.and_eq_true, decide_eq_true_eq] at this
    rcases hq with rfl | rfl <;> omega
  · have := tindsB_all _ _ _ h8 x hx
    unfold indexB stateB at this
    simp only [Bool.and_eq_true, decide_eq_true_eq] at this
    omega
set_option maxRecDepth 100000 in
set_option maxHeartbeats 4000000 in
theorem cstate_calls (v : Int) (ts : List S70) (nx kind table elem : Int) (hwf : ∀ t ∈ ts, TabWf t) (A : Option Addr) (c : Nat) (w : World) (hG : GL w) (hc : ts.length ≤ c) (hC : k70.C w A ts.length ts) :
    Calls Tryd.prog 53 #[.agg #[.int .i64 v, .slice A ts.length c, .int .i64 nx], .int .i64 kind, .int .i64 table, .int .i64 elem] w fun e w' => e = .returned (.tuple #[.int .i64 (if stateI v ts nx kind table elem < 0 then 0 else stateI v ts nx kind table elem), .bool (decide (0 ≤ stateI v ts nx kind table elem))]) ∧ Below w.heap.size w w' := by
  have hb0 := below_alloc (Below.refl _ w) (.cells #[.int .i64 v, .slice A ts.length c, .int .i64 nx] 28)
  have HM := Lib.hid (may_calls v ts nx hwf A c (w.alloc (.cells #[.int .i64 v, .slice A ts.length c, .int .i64 nx] 28)) (hG.of_below hb0) (Kd.C_below hC hb0))
  have HX := Aside0.mk (heap_alloc_new w (.cells #[.int .i64 v, .slice A ts.length c, .int .i64 nx] 28))
  have HF := Lib.hid (fun (w' : World) (hb : Below w.heap.size w w') hX => find_calls w.heap.size v nx kind table elem ts A c w' hX (Kd.C_below hC hb))
  have HB0 := Aside0.mk hb0
  obtain ⟨s, hs⟩ : ∃ s, stateI v ts nx kind table elem = s := ⟨_, rfl⟩
  have hst : (schB v ts nx = false ∧ s = -1) ∨ (schB v ts nx = true ∧ tS ts kind table elem = s) := by
    rw [← hs]
    unfold stateI tS
    cases hq : schB v ts nx with
    | false => left; exact ⟨rfl, by split <;> simp⟩
    | true => right; exact ⟨rfl, by split <;> simp⟩
  rw [hs]
  clear hs hb0 hC hG hwf
  rcases hst with ⟨h1, rfl⟩ | ⟨h1, h2⟩
  · rw [h1] at HM
    clear h1 HF
    go_enter Tryd.func53, Tryd.ntmps53
    go_wp2_with fail
    refine HM.out.mono ?_
    rintro e w1 ⟨rfl, hb1⟩
    have HB1 := Aside0.mk (below_then HB0.out (by simp) hb1)
    clear hb1 HM
    go_wp2
    go_ret2
    exact ⟨rfl, HB1.out⟩
  · rw [h2] at HF
    have HP := Lib.hid (fun hs => stIn_pos h1 (s := s) hs)
    rw [h1] at HM
    obtain ⟨r, hr⟩ : ∃ r, (if s < 0 then 0 else s) = r := ⟨_, rfl⟩
    obtain ⟨b, hb⟩ : ∃ b, decide (0 ≤ s) = b := ⟨_, rfl⟩
    rw [hr, hb]
    have HRB := Lib.hid (And.intro hr hb)
    clear h1 h2 hr hb
    go_enter Tryd.func53, Tryd.ntmps53
    go_wp2_with fail
    refine HM.out.mono ?_
    rintro e w1 ⟨rfl, hb1⟩
    have HB1 := Aside0.mk (below_then HB0.out (by simp) hb1)
    have hx1 := blk_below HX.out hb1
    have HX1 := Aside0.mk hx1
    clear hb1 hx1 HM HB0 HX
    go_wp2_with fail
    refine (HF.out _ HB1.out HX1.out).mono ?_
    rintro e w2 ⟨hb2, ⟨rfl, p, rfl⟩ | ⟨E, pa, st, k, ix, rl, rfl, hel, hst, hin⟩⟩
    · have HB2 := Aside0.mk (below_then HB1.out HB1.out.size hb2)
      obtain rfl : r = 0 := by rw [← HRB.out.1]; rfl
      obtain rfl : b = false := by rw [← HRB.out.2]; rfl
      clear hb2 HF HRB
      go_wp2
      go_ret2
      exact ⟨rfl, HB2.out⟩
    · have HB2 := Aside0.mk (below_then HB1.out HB1.out.size hb2)
      have hp := (HP.out hin).1
      have e1 := blk_cell (j := 1) (v := .pointer (some st)) hel rfl
      obtain rfl : r = s := by rw [← HRB.out.1, if_neg (by omega)]
      obtain rfl : b = true := by rw [← HRB.out.2, decide_eq_true hp]
      clear hb2 hel HF hp HRB
      go_wp2
      go_ret2
      exact ⟨rfl, HB2.out⟩
end Go.Proofs.YtjgomlcdmpcoaaaDoor.H
namespace Go.Proofs.YtjgomlcdmpcoaaaDoor.D
open Go.RowKit Go.Proofs.YtjgomlcdmpcoaaaDoorW.PrintWords Go.Proofs.YtjgomlcdmpcoaaaDoorW.PrintLast Go.Proofs.YtjgomlcdmpcoaaaDoorW.PrintMore
attribute [local go_sem] max2_int min2_int max_two min_two max_three min_three max_four min_four
set_option linter.unusedVariables false
set_option linter.unusedSimpArgs false
def job_id.f (a0 : Int) : Option (Bool) := if a0 ≥ 1 then (some (decide (a0 ≤ 60000))) else (some false)
set_option maxHeartbeats 8000000 in
set_option maxRecDepth 100000 in
theorem job_id.calls (a0 : Int) (r : Bool) (w : World) (h : job_id.f a0 = some r) :
  Calls Tryd.prog 60 #[.int .i64 a0] w fun e w' => e = .returned (.bool r) ∧ Drawn0 w w' := by
 have H : (if a0 ≥ 1 then (some (decide (a0 ≤ 60000))) else (some false)) = some r := h
 clear h; by_cases c2 : a0 ≥ 1
 ·rw [if_pos c2] at H
  have c2b0 : decide (1 ≤ a0) = true := decide_eq_true c2
  clear c2; obtain rfl := Option.some.inj H; go_enter Tryd.func60, Tryd.ntmps60
  go_wp2; go_ret; exact ⟨by first | rfl | (simp; done) | (simp [*]; done), by repeat (first | exact Drawn0.refl _ | apply Drawn0.step)⟩
 ·rw [if_neg c2] at H
  have c2b0 : decide (1 ≤ a0) = false := decide_eq_false c2
  clear c2; obtain rfl := Option.some.inj H; go_enter Tryd.func60, Tryd.ntmps60
  go_wp2; go_ret; exact ⟨by first | rfl | (simp; done) | (simp [*]; done), by repeat (first | exact Drawn0.refl _ | apply Drawn0.step)⟩
end Go.Proofs.YtjgomlcdmpcoaaaDoor.D
namespace Go.Proofs.YtjgomlcdmpcoaaaDoor.D
open Go.RowKit Go.Proofs.YtjgomlcdmpcoaaaDoorW.PrintWords Go.Proofs.YtjgomlcdmpcoaaaDoorW.PrintLast Go.Proofs.YtjgomlcdmpcoaaaDoorW.PrintMore
attribute [local go_sem] max2_int min2_int max_two min_two max_three min_three max_four min_four
set_option linter.unusedVariables false
set_option linter.unusedSimpArgs false
def job_May.f (a0_0 : Int) (a0_1 : Int) (a0_2 : Int) (a0_3 : Int) (a0_4 : Int) (a0_5 : Bool) (a0_6 : ByteArray) (a0_7 : Bool) : Option (Bool) := if a0_0 ≥ 1 then (if a0_0 < 1099511627776 then (if a0_1 ≥ 6 then (if a0_1 ≤ 11 then ((job_id.f a0_2).bind fun t102 => (if t102 = true then ((job_id.f a0_3).bind fun t103 => (if t103 = true then (if a0_4 ≥ 1 then (if a0_4 ≤ 4 then (if (a0_6.size : Int) ≤ 1001 then (if a0_7 = true then (if a0_4 = 2 then (some true) else (some (a0_4 == 4))) else (some true)) else (some false)) else (some false)) else (some false)) else (some false))) else (some false))) else (some false)) else (some false)) else (some false)) else (some false)
set_option maxHeartbeats 8000000 in
set_option maxRecDepth 100000 in
theorem job_May.calls (a0_0 : Int) (a0_1 : Int) (a0_2 : Int) (a0_3 : Int) (a0_4 : Int) (a0_5 : Bool) (a0_6 : ByteArray) (a0_7 : Bool) (r : Bool) (w : World) (h : job_May.f a0_0 a0_1 a0_2 a0_3 a0_4 a0_5 a0_6 a0_7 = some r) :
  Calls Tryd.prog 22 #[.agg #[.int .i64 a0_0, .int .i64 a0_1, .int .i64 a0_2, .int .i64 a0_3, .int .i64 a0_4, .bool a0_5, .string a0_6, .bool a0_7]] w fun e w' => e = .returned (.bool r) ∧ Below w.heap.size w w' := by
 have hu23 := Tryd.underlying23
 have HB := Aside0.mk (Below.refl w.heap.size w)
 have H : (if a0_0 ≥ 1 then (if a0_0 < 1099511627776 then (if a0_1 ≥ 6 then (if a0_1 ≤ 11 then ((job_id.f a0_2).bind fun t102 => (if t102 = true then ((job_id.f a0_3).bind fun t103 => (if t103 = true then (if a0_4 ≥ 1 then (if a0_4 ≤ 4 then (if (a0_6.size : Int) ≤ 1001 then (if a0_7 = true then (if a0_4 = 2 then (some true) else (some (a0_4 == 4))) else (some true)) else (some false)) else (some false)) else (some false)) else (some false))) else (some false))) else (some false)) else (some false)) else (some false)) else (some false)) = some r := h
 clear h; by_cases c2 : a0_0 ≥ 1
 ·rw [if_pos c2] at H
  have c2b0 : decide (1 ≤ a0_0) = true := decide_eq_true c2
  clear c2; by_cases c3 : a0_0 < 1099511627776
  ·rw [if_pos c3] at H
   have c3b0 : decide (a0_0 < 1099511627776) = true := decide_eq_true c3
   clear c3; by_cases c4 : a0_1 ≥ 6
   ·rw [if_pos c4] at H
    have c4b0 : decide (6 ≤ a0_1) = true := decide_eq_true c4
    clear c4; by_cases c5 : a0_1 ≤ 11
    ·rw [if_pos c5] at H
     have c5b0 : decide (a0_1 ≤ 11) = true := decide_eq_true c5
     clear c5; replace H := Option.bind_eq_some_iff.mp H; obtain ⟨t102, A60, H⟩ := H
     replace H : (if t102 = true then ((job_id.f a0_3).bind fun t103 => (if t103 = true then (if a0_4 ≥ 1 then (if a0_4 ≤ 4 then (if (a0_6.size : Int) ≤ 1001 then (if a0_7 = true then (if a0_4 = 2 then (some true) else (some (a0_4 == 4))) else (some true)) else (some false)) else (some false)) else (some false)) else (some false))) else (some false)) = some r := H
     have A6 := Aside0.mk A60; clear A60; by_cases c7 : t102 = true
     ·subst c7
      have H1 : ((job_id.f a0_3).bind fun t103 => (if t103 = true then (if a0_4 ≥ 1 then (if a0_4 ≤ 4 then (if (a0_6.size : Int) ≤ 1001 then (if a0_7 = true then (if a0_4 = 2 then (some true) else (some (a0_4 == 4))) else (some true)) else (some false)) else (some false)) else (some false)) else (some false))) = some r := by rw [if_pos rfl] at H; exact H
      clear H; have H := H1; clear H1; replace H := Option.bind_eq_some_iff.mp H; obtain ⟨t103, A80, H⟩ := H
      replace H : (if t103 = true then (if a0_4 ≥ 1 then (if a0_4 ≤ 4 then (if (a0_6.size : Int) ≤ 1001 then (if a0_7 = true then (if a0_4 = 2 then (some true) else (some (a0_4 == 4))) else (some true)) else (some false)) else (some false)) else (some false)) else (some false)) = some r := H
      have A8 := Aside0.mk A80; clear A80; by_cases c9 : t103 = true
      ·subst c9
       have H1 : (if a0_4 ≥ 1 then (if a0_4 ≤ 4 then (if (a0_6.size : Int) ≤ 1001 then (if a0_7 = true then (if a0_4 = 2 then (some true) else (some (a0_4 == 4))) else (some true)) else (some false)) else (some false)) else (some false)) = some r := by rw [if_pos rfl] at H; exact H
       clear H; have H := H1; clear H1; by_cases c10 : a0_4 ≥ 1
       ·rw [if_pos c10] at H
        have c10b0 : decide (1 ≤ a0_4) = true := decide_eq_true c10
        clear c10; by_cases c11 : a0_4 ≤ 4
        ·rw [if_pos c11] at H
         have c11b0 : decide (a0_4 ≤ 4) = true := decide_eq_true c11
         clear c11; by_cases c12 : (a0_6.size : Int) ≤ 1001
         ·rw [if_pos c12] at H
          have c12b0 : decide ((a0_6.size : Int) ≤ 1001) = true := decide_eq_true c12
          have c12b1 : decide (a0_6.size ≤ 1001) = true := decide_eq_true (by omega)
          clear c12; by_cases c13 : a0_7 = true
          ·subst c13
           have H1 : (if a0_4 = 2 then (some true) else (some (a0_4 == 4))) = some r := by rw [if_pos rfl] at H; exact H
           clear H; have H := H1; clear H1; by_cases c14 : a0_4 = 2
           ·rw [if_pos c14] at H
            have c14b0 : (a0_4 == 2) = true := beq_iff_eq.mpr c14
            have c14b1 : (a0_4 != 2) = false := bne_eq_false_iff_eq.mpr c14
            clear c14; obtain rfl := Option.some.inj H; go_enter Tryd.func22, Tryd.ntmps22
            go_wp2_with (first | ((with_reducible refine gate_dst (N := 1) rfl ?_); (try (refine gate_guard (by rfl) ?_; dsimp only)); refine box_event ?hg (N := 1) ?hd (cs := #[.int .i64 a0_0, .int .i64 a0_1, .int .i64 a0_2, .int .i64 a0_3, .int .i64 a0_4, .bool a0_5, .string a0_6, .bool true]) (t := 23) ?hr ?_; (case hd => rfl); (case hg => rfl); (case hr => first | (go_simp; done) | (go_simp; rfl)); intro gb101 hg w15 hbox hb; have n0_ := Aside0.mk (below_step (by repeat (first | (with_reducible first | exact HB.out | apply below_alloc | apply pw_below_drewN | apply below_drew1) | exact HB.out)) hb); have n1_ := Aside0.mk (hbox); have n2_ := Aside0.mk ((by rw [hg]; exact (below_size (by repeat (first | (with_reducible first | exact HB.out | apply below_alloc | apply pw_below_drewN | apply below_drew1) | exact HB.out))) : w.heap.size ≤ gb101)); have n3_ := Aside0.mk ((by rw [hg]; exact (below_size (by repeat (first | (with_reducible first | exact HB.out | apply below_alloc | apply pw_below_drewN | apply below_drew1) | exact HB.out))) : w.heap.size ≤ gb101)); clear HB; have HB := n0_; have BK101 := n1_; have GW101 := n2_; have GE101 := n3_; clear n0_ n1_ n2_ n3_; clear hb hbox hg; have hcz16_0 : w15.cell? ⟨gb101, 0, none⟩ = some (.int .i64 a0_0) := (Go.Proofs.YtjgomlcdmpcoaaaDoorW.PrintWords.blk_cell BK101.out 0).trans rfl; have hcz16_1 : w15.cell? ⟨gb101, 1, none⟩ = some (.int .i64 a0_1) := (Go.Proofs.YtjgomlcdmpcoaaaDoorW.PrintWords.blk_cell BK101.out 1).trans rfl; have hcz16_2 : w15.cell? ⟨gb101, 2, none⟩ = some (.int .i64 a0_2) := (Go.Proofs.YtjgomlcdmpcoaaaDoorW.PrintWords.blk_cell BK101.out 2).trans rfl; have hcz16_3 : w15.cell? ⟨gb101, 3, none⟩ = some (.int .i64 a0_3) := (Go.Proofs.YtjgomlcdmpcoaaaDoorW.PrintWords.blk_cell BK101.out 3).trans rfl; have hcz16_4 : w15.cell? ⟨gb101, 4, none⟩ = some (.int .i64 a0_4) := (Go.Proofs.YtjgomlcdmpcoaaaDoorW.PrintWords.blk_cell BK101.out 4).trans rfl; have hcz16_5 : w15.cell? ⟨gb101, 5, none⟩ = some (.bool a0_5) := (Go.Proofs.YtjgomlcdmpcoaaaDoorW.PrintWords.blk_cell BK101.out 5).trans rfl; have hcz16_6 : w15.cell? ⟨gb101, 6, none⟩ = some (.string a0_6) := (Go.Proofs.YtjgomlcdmpcoaaaDoorW.PrintWords.blk_cell BK101.out 6).trans rfl; have hcz16_7 : w15.cell? ⟨gb101, 7, none⟩ = some (.bool true) := (Go.Proofs.YtjgomlcdmpcoaaaDoorW.PrintWords.blk_cell BK101.out 7).trans rfl; have hfz16_0 := blk_frozen BK101.out 0; have hfz16_1 := blk_frozen BK101.out 1; have hfz16_2 := blk_frozen BK101.out 2; have hfz16_3 := blk_frozen BK101.out 3; have hfz16_4 := blk_frozen BK101.out 4; have hfz16_5 := blk_frozen BK101.out 5; have hfz16_6 := blk_frozen BK101.out 6; have hfz16_7 := blk_frozen BK101.out 7) | (go_at_call 60; (with_reducible refine (job_id.calls a0_2 true _ A6.out).mono ?_); rintro e w' ⟨rfl, ⟨nd, rfl⟩⟩) | (go_at_call 60; (with_reducible refine (job_id.calls a0_3 true _ A8.out).mono ?_); rintro e w' ⟨rfl, ⟨nd, rfl⟩⟩))
            go_ret; exact ⟨by first | rfl | (simp [errW_none, errW_some] <;> rfl) | (simp [*, errW_none, errW_some] <;> rfl), by repeat (first | (with_reducible first | exact HB.out | apply below_alloc | apply pw_below_drewN | apply below_drew1 | refine below_set ?_ GE101.out) | exact HB.out)⟩
           ·rw [if_neg c14] at H
            have c14b0 : (a0_4 == 2) = false := beq_eq_false_iff_ne.mpr c14
            have c14b1 : (a0_4 != 2) = true := bne_iff_ne.mpr c14
            obtain rfl := Option.some.inj H; go_enter Tryd.func22, Tryd.ntmps22
            go_wp2_with (first | ((with_reducible refine gate_dst (N := 1) rfl ?_); (try (refine gate_guard (by rfl) ?_; dsimp only)); refine box_event ?hg (N := 1) ?hd (cs := #[.int .i64 a0_0, .int .i64 a0_1, .int .i64 a0_2, .int .i64 a0_3, .int .i64 a0_4, .bool a0_5, .string a0_6, .bool true]) (t := 23) ?hr ?_; (case hd => rfl); (case hg => rfl); (case hr => first | (go_simp; done) | (go_simp; rfl)); intro gb101 hg w17 hbox hb; have n0_ := Aside0.mk (below_step (by repeat (first | (with_reducible first | exact HB.out | apply below_alloc | apply pw_below_drewN | apply below_drew1) | exact HB.out)) hb); have n1_ := Aside0.mk (hbox); have n2_ := Aside0.mk ((by rw [hg]; exact (below_size (by repeat (first | (with_reducible first | exact HB.out | apply below_alloc | apply pw_below_drewN | apply below_drew1) | exact HB.out))) : w.heap.size ≤ gb101)); have n3_ := Aside0.mk ((by rw [hg]; exact (below_size (by repeat (first | (with_reducible first | exact HB.out | apply below_alloc | apply pw_below_drewN | apply below_drew1) | exact HB.out))) : w.heap.size ≤ gb101)); clear HB; have HB := n0_; have BK101 := n1_; have GW101 := n2_; have GE101 := n3_; clear n0_ n1_ n2_ n3_; clear hb hbox hg; have hcz18_0 : w17.cell? ⟨gb101, 0, none⟩ = some (.int .i64 a0_0) := (Go.Proofs.YtjgomlcdmpcoaaaDoorW.PrintWords.blk_cell BK101.out 0).trans rfl; have hcz18_1 : w17.cell? ⟨gb101, 1, none⟩ = some (.int .i64 a0_1) := (Go.Proofs.YtjgomlcdmpcoaaaDoorW.PrintWords.blk_cell BK101.out 1).trans rfl; have hcz18_2 : w17.cell? ⟨gb101, 2, none⟩ = some (.int .i64 a0_2) := (Go.Proofs.YtjgomlcdmpcoaaaDoorW.PrintWords.blk_cell BK101.out 2).trans rfl; have hcz18_3 : w17.cell? ⟨gb101, 3, none⟩ = some (.int .i64 a0_3) := (Go.Proofs.YtjgomlcdmpcoaaaDoorW.PrintWords.blk_cell BK101.out 3).trans rfl; have hcz18_4 : w17.cell? ⟨gb101, 4, none⟩ = some (.int .i64 a0_4) := (Go.Proofs.YtjgomlcdmpcoaaaDoorW.PrintWords.blk_cell BK101.out 4).trans rfl; have hcz18_5 : w17.cell? ⟨gb101, 5, none⟩ = some (.bool a0_5) := (Go.Proofs.YtjgomlcdmpcoaaaDoorW.PrintWords.blk_cell BK101.out 5).trans rfl; have hcz18_6 : w17.cell? ⟨gb101, 6, none⟩ = some (.string a0_6) := (Go.Proofs.YtjgomlcdmpcoaaaDoorW.PrintWords.blk_cell BK101.out 6).trans rfl; have hcz18_7 : w17.cell? ⟨gb101, 7, none⟩ = some (.bool true) := (Go.Proofs.YtjgomlcdmpcoaaaDoorW.PrintWords.blk_cell BK101.out 7).trans rfl; have hfz18_0 := blk_frozen BK101.out 0; have hfz18_1 := blk_frozen BK101.out 1; have hfz18_2 := blk_frozen BK101.out 2; have hfz18_3 := blk_frozen BK101.out 3; have hfz18_4 := blk_frozen BK101.out 4; have hfz18_5 := blk_frozen BK101.out 5; have hfz18_6 := blk_frozen BK101.out 6; have hfz18_7 := blk_frozen BK101.out 7) | (go_at_call 60; (with_reducible refine (job_id.calls a0_2 true _ A6.out).mono ?_); rintro e w' ⟨rfl, ⟨nd, rfl⟩⟩) | (go_at_call 60; (with_reducible refine (job_id.calls a0_3 true _ A8.out).mono ?_); rintro e w' ⟨rfl, ⟨nd, rfl⟩⟩))
            go_ret; exact ⟨by first | rfl | (simp [errW_none, errW_some] <;> rfl) | (simp [*, errW_none, errW_some] <;> rfl), by repeat (first | (with_reducible first | exact HB.out | apply below_alloc | apply pw_below_drewN | apply below_drew1 | refine below_set ?_ GE101.out) | exact HB.out)⟩
          ·replace c13 := Bool.eq_false_iff.mpr c13
           subst c13; have H1 : (some true) = some r := by rw [if_neg (show ¬ (false = true) by decide)] at H; exact H
           clear H; have H := H1; clear H1; obtain rfl := Option.some.inj H; go_enter Tryd.func22, Tryd.ntmps22
           go_wp2_with (first | ((with_reducible refine gate_dst (N := 1) rfl ?_); (try (refine gate_guard (by rfl) ?_; dsimp only)); refine box_event ?hg (N := 1) ?hd (cs := #[.int .i64 a0_0, .int .i64 a0_1, .int .i64 a0_2, .int .i64 a0_3, .int .i64 a0_4, .bool a0_5, .string a0_6, .bool false]) (t := 23) ?hr ?_; (case hd => rfl); (case hg => rfl); (case hr => first | (go_simp; done) | (go_simp; rfl)); intro gb101 hg w19 hbox hb; have n0_ := Aside0.mk (below_step (by repeat (first | (with_reducible first | exact HB.out | apply below_alloc | apply pw_below_drewN | apply below_drew1) | exact HB.out)) hb); have n1_ := Aside0.mk (hbox); have n2_ := Aside0.mk ((by rw [hg]; exact (below_size (by repeat (first | (with_reducible first | exact HB.out | apply below_alloc | apply pw_below_drewN | apply below_drew1) | exact HB.out))) : w.heap.size ≤ gb101)); have n3_ := Aside0.mk ((by rw [hg]; exact (below_size (by repeat (first | (with_reducible first | exact HB.out | apply below_alloc | apply pw_below_drewN | apply below_drew1) | exact HB.out))) : w.heap.size ≤ gb101)); clear HB; have HB := n0_; have BK101 := n1_; have GW101 := n2_; have GE101 := n3_; clear n0_ n1_ n2_ n3_; clear hb hbox hg; have hcz20_0 : w19.cell? ⟨gb101, 0, none⟩ = some (.int .i64 a0_0) := (Go.Proofs.YtjgomlcdmpcoaaaDoorW.PrintWords.blk_cell BK101.out 0).trans rfl; have hcz20_1 : w19.cell? ⟨gb101, 1, none⟩ = some (.int .i64 a0_1) := (Go.Proofs.YtjgomlcdmpcoaaaDoorW.PrintWords.blk_cell BK101.out 1).trans rfl; have hcz20_2 : w19.cell? ⟨gb101, 2, none⟩ = some (.int .i64 a0_2) := (Go.Proofs.YtjgomlcdmpcoaaaDoorW.PrintWords.blk_cell BK101.out 2).trans rfl; have hcz20_3 : w19.cell? ⟨gb101, 3, none⟩ = some (.int .i64 a0_3) := (Go.Proofs.YtjgomlcdmpcoaaaDoorW.PrintWords.blk_cell BK101.out 3).trans rfl; have hcz20_4 : w19.cell? ⟨gb101, 4, none⟩ = some (.int .i64 a0_4) := (Go.Proofs.YtjgomlcdmpcoaaaDoorW.PrintWords.blk_cell BK101.out 4).trans rfl; have hcz20_5 : w19.cell? ⟨gb101, 5, none⟩ = some (.bool a0_5) := (Go.Proofs.YtjgomlcdmpcoaaaDoorW.PrintWords.blk_cell BK101.out 5).trans rfl; have hcz20_6 : w19.cell? ⟨gb101, 6, none⟩ = some (.string a0_6) := (Go.Proofs.YtjgomlcdmpcoaaaDoorW.PrintWords.blk_cell BK101.out 6).trans rfl; have hcz20_7 : w19.cell? ⟨gb101, 7, none⟩ = some (.bool false) := (Go.Proofs.YtjgomlcdmpcoaaaDoorW.PrintWords.blk_cell BK101.out 7).trans rfl; have hfz20_0 := blk_frozen BK101.out 0; have hfz20_1 := blk_frozen BK101.out 1; have hfz20_2 := blk_frozen BK101.out 2; have hfz20_3 := blk_frozen BK101.out 3; have hfz20_4 := blk_frozen BK101.out 4; have hfz20_5 := blk_frozen BK101.out 5; have hfz20_6 := blk_frozen BK101.out 6; have hfz20_7 := blk_frozen BK101.out 7) | (go_at_call 60; (with_reducible refine (job_id.calls a0_2 true _ A6.out).mono ?_); rintro e w' ⟨rfl, ⟨nd, rfl⟩⟩) | (go_at_call 60; (with_reducible refine (job_id.calls a0_3 true _ A8.out).mono ?_); rintro e w' ⟨rfl, ⟨nd, rfl⟩⟩))
           go_ret; exact ⟨by first | rfl | (simp [errW_none, errW_some] <;> rfl) | (simp [*, errW_none, errW_some] <;> rfl), by repeat (first | (with_reducible first | exact HB.out | apply below_alloc | apply pw_below_drewN | apply below_drew1 | refine below_set ?_ GE101.out) | exact HB.out)⟩
         ·rw [if_neg c12] at H
          have c12b0 : decide ((a0_6.size : Int) ≤ 1001) = false := decide_eq_false c12
          have c12b1 : decide (a0_6.size ≤ 1001) = false := decide_eq_false (by omega)
          clear c12; obtain rfl := Option.some.inj H; go_enter Tryd.func22, Tryd.ntmps22
          go_wp2_with (first | ((with_reducible refine gate_dst (N := 1) rfl ?_); (try (refine gate_guard (by rfl) ?_; dsimp only)); refine box_event ?hg (N := 1) ?hd (cs := #[.int .i64 a0_0, .int .i64 a0_1, .int .i64 a0_2, .int .i64 a0_3, .int .i64 a0_4, .bool a0_5, .string a0_6, .bool a0_7]) (t := 23) ?hr ?_; (case hd => rfl); (case hg => rfl); (case hr => first | (go_simp; done) | (go_simp; rfl)); intro gb101 hg w21 hbox hb; have n0_ := Aside0.mk (below_step (by repeat (first | (with_reducible first | exact HB.out | apply below_alloc | apply pw_below_drewN | apply below_drew1) | exact HB.out)) hb); have n1_ := Aside0.mk (hbox); have n2_ := Aside0.mk ((by rw [hg]; exact (below_size (by repeat (first | (with_reducible first | exact HB.out | apply below_alloc | apply pw_below_drewN | apply below_drew1) | exact HB.out))) : w.heap.size ≤ gb101)); have n3_ := Aside0.mk ((by rw [hg]; exact (below_size (by repeat (first | (with_reducible first | exact HB.out | apply below_alloc | apply pw_below_drewN | apply below_drew1) | exact HB.out))) : w.heap.size ≤ gb101)); clear HB; have HB := n0_; have BK101 := n1_; have GW101 := n2_; have GE101 := n3_; clear n0_ n1_ n2_ n3_; clear hb hbox hg; have hcz22_0 : w21.cell? ⟨gb101, 0, none⟩ = some (.int .i64 a0_0) := (Go.Proofs.YtjgomlcdmpcoaaaDoorW.PrintWords.blk_cell BK101.out 0).trans rfl; have hcz22_1 : w21.cell? ⟨gb101, 1, none⟩ = some (.int .i64 a0_1) := (Go.Proofs.YtjgomlcdmpcoaaaDoorW.PrintWords.blk_cell BK101.out 1).trans rfl; have hcz22_2 : w21.cell? ⟨gb101, 2, none⟩ = some (.int .i64 a0_2) := (Go.Proofs.YtjgomlcdmpcoaaaDoorW.PrintWords.blk_cell BK101.out 2).trans rfl; have hcz22_3 : w21.cell? ⟨gb101, 3, none⟩ = some (.int .i64 a0_3) := (Go.Proofs.YtjgomlcdmpcoaaaDoorW.PrintWords.blk_cell BK101.out 3).trans rfl; have hcz22_4 : w21.cell? ⟨gb101, 4, none⟩ = some (.int .i64 a0_4) := (Go.Proofs.YtjgomlcdmpcoaaaDoorW.PrintWords.blk_cell BK101.out 4).trans rfl; have hcz22_5 : w21.cell? ⟨gb101, 5, none⟩ = some (.bool a0_5) := (Go.Proofs.YtjgomlcdmpcoaaaDoorW.PrintWords.blk_cell BK101.out 5).trans rfl; have hcz22_6 : w21.cell? ⟨gb101, 6, none⟩ = some (.string a0_6) := (Go.Proofs.YtjgomlcdmpcoaaaDoorW.PrintWords.blk_cell BK101.out 6).trans rfl; have hcz22_7 : w21.cell? ⟨gb101, 7, none⟩ = some (.bool a0_7) := (Go.Proofs.YtjgomlcdmpcoaaaDoorW.PrintWords.blk_cell BK101.out 7).trans rfl; have hfz22_0 := blk_frozen BK101.out 0; have hfz22_1 := blk_frozen BK101.out 1; have hfz22_2 := blk_frozen BK101.out 2; have hfz22_3 := blk_frozen BK101.out 3; have hfz22_4 := blk_frozen BK101.out 4; have hfz22_5 := blk_frozen BK101.out 5; have hfz22_6 := blk_frozen BK101.out 6; have hfz22_7 := blk_frozen BK101.out 7) | (go_at_call 60; (with_reducible refine (job_id.calls a0_2 true _ A6.out).mono ?_); rintro e w' ⟨rfl, ⟨nd, rfl⟩⟩) | (go_at_call 60; (with_reducible refine (job_id.calls a0_3 true _ A8.out).mono ?_); rintro e w' ⟨rfl, ⟨nd, rfl⟩⟩))
          go_ret; exact ⟨by first | rfl | (simp [errW_none, errW_some] <;> rfl) | (simp [*, errW_none, errW_some] <;> rfl), by repeat (first | (with_reducible first | exact HB.out | apply below_alloc | apply pw_below_drewN | apply below_drew1 | refine below_set ?_ GE101.out) | exact HB.out)⟩
        ·rw [if_neg c11] at H
         have c11b0 : decide (a0_4 ≤ 4) = false := decide_eq_false c11
         clear c11; obtain rfl := Option.some.inj H; go_enter Tryd.func22, Tryd.ntmps22
         go_wp2_with (first | ((with_reducible refine gate_dst (N := 1) rfl ?_); (try (refine gate_guard (by rfl) ?_; dsimp only)); refine box_event ?hg (N := 1) ?hd (cs := #[.int .i64 a0_0, .int .i64 a0_1, .int .i64 a0_2, .int .i64 a0_3, .int .i64 a0_4, .bool a0_5, .string a0_6, .bool a0_7]) (t := 23) ?hr ?_; (case hd => rfl); (case hg => rfl); (case hr => first | (go_simp; done) | (go_simp; rfl)); intro gb101 hg w23 hbox hb; have n0_ := Aside0.mk (below_step (by repeat (first | (with_reducible first | exact HB.out | apply below_alloc | apply pw_below_drewN | apply below_drew1) | exact HB.out)) hb); have n1_ := Aside0.mk (hbox); have n2_ := Aside0.mk ((by rw [hg]; exact (below_size (by repeat (first | (with_reducible first | exact HB.out | apply below_alloc | apply pw_below_drewN | apply below_drew1) | exact HB.out))) : w.heap.size ≤ gb101)); have n3_ := Aside0.mk ((by rw [hg]; exact (below_size (by repeat (first | (with_reducible first | exact HB.out | apply below_alloc | apply pw_below_drewN | apply below_drew1) | exact HB.out))) : w.heap.size ≤ gb101)); clear HB; have HB := n0_; have BK101 := n1_; have GW101 := n2_; have GE101 := n3_; clear n0_ n1_ n2_ n3_; clear hb hbox hg; have hcz24_0 : w23.cell? ⟨gb101, 0, none⟩ = some (.int .i64 a0_0) := (Go.Proofs.YtjgomlcdmpcoaaaDoorW.PrintWords.blk_cell BK101.out 0).trans rfl; have hcz24_1 : w23.cell? ⟨gb101, 1, none⟩ = some (.int .i64 a0_1) := (Go.Proofs.YtjgomlcdmpcoaaaDoorW.PrintWords.blk_cell BK101.out 1).trans rfl; have hcz24_2 : w23.cell? ⟨gb101, 2, none⟩ = some (.int .i64 a0_2) := (Go.Proofs.YtjgomlcdmpcoaaaDoorW.PrintWords.blk_cell BK101.out 2).trans rfl; have hcz24_3 : w23.cell? ⟨gb101, 3, none⟩ = some (.int .i64 a0_3) := (Go.Proofs.YtjgomlcdmpcoaaaDoorW.PrintWords.blk_cell BK101.out 3).trans rfl; have hcz24_4 : w23.cell? ⟨gb101, 4, none⟩ = some (.int .i64 a0_4) := (Go.Proofs.YtjgomlcdmpcoaaaDoorW.PrintWords.blk_cell BK101.out 4).trans rfl; have hcz24_5 : w23.cell? ⟨gb101, 5, none⟩ = some (.bool a0_5) := (Go.Proofs.YtjgomlcdmpcoaaaDoorW.PrintWords.blk_cell BK101.out 5).trans rfl; have hcz24_6 : w23.cell? ⟨gb101, 6, none⟩ = some (.string a0_6) := (Go.Proofs.YtjgomlcdmpcoaaaDoorW.PrintWords.blk_cell BK101.out 6).trans rfl; have hcz24_7 : w23.cell? ⟨gb101, 7, none⟩ = some (.bool a0_7) := (Go.Proofs.YtjgomlcdmpcoaaaDoorW.PrintWords.blk_cell BK101.out 7).trans rfl; have hfz24_0 := blk_frozen BK101.out 0; have hfz24_1 := blk_frozen BK101.out 1; have hfz24_2 := blk_frozen BK101.out 2; have hfz24_3 := blk_frozen BK101.out 3; have hfz24_4 := blk_frozen BK101.out 4; have hfz24_5 := blk_frozen BK101.out 5; have hfz24_6 := blk_frozen BK101.out 6; have hfz24_7 := blk_frozen BK101.out 7) | (go_at_call 60; (with_reducible refine (job_id.calls a0_2 true _ A6.out).mono ?_); rintro e w' ⟨rfl, ⟨nd, rfl⟩⟩) | (go_at_call 60; (with_reducible refine (job_id.calls a0_3 true _ A8.out).mono ?_); rintro e w' ⟨rfl, ⟨nd, rfl⟩⟩))
         go_ret; exact ⟨by first | rfl | (simp [errW_none, errW_some] <;> rfl) | (simp [*, errW_none, errW_some] <;> rfl), by repeat (first | (with_reducible first | exact HB.out | apply below_alloc | apply pw_below_drewN | apply below_drew1 | refine below_set ?_ GE101.out) | exact HB.out)⟩
       ·rw [if_neg c10] at H
        have c10b0 : decide (1 ≤ a0_4) = false := decide_eq_false c10
        clear c10; obtain rfl := Option.some.inj H; go_enter Tryd.func22, Tryd.ntmps22
        go_wp2_with (first | ((with_reducible refine gate_dst (N := 1) rfl ?_); (try (refine gate_guard (by rfl) ?_; dsimp only)); refine box_event ?hg (N := 1) ?hd (cs := #[.int .i64 a0_0, .int .i64 a0_1, .int .i64 a0_2, .int .i64 a0_3, .int .i64 a0_4, .bool a0_5, .string a0_6, .bool a0_7]) (t := 23) ?hr ?_; (case hd => rfl); (case hg => rfl); (case hr => first | (go_simp; done) | (go_simp; rfl)); intro gb101 hg w25 hbox hb; have n0_ := Aside0.mk (below_step (by repeat (first | (with_reducible first | exact HB.out | apply below_alloc | apply pw_below_drewN | apply below_drew1) | exact HB.out)) hb); have n1_ := Aside0.mk (hbox); have n2_ := Aside0.mk ((by rw [hg]; exact (below_size (by repeat (first | (with_reducible first | exact HB.out | apply below_alloc | apply pw_below_drewN | apply below_drew1) | exact HB.out))) : w.heap.size ≤ gb101)); have n3_ := Aside0.mk ((by rw [hg]; exact (below_size (by repeat (first | (with_reducible first | exact HB.out | apply below_alloc | apply pw_below_drewN | apply below_drew1) | exact HB.out))) : w.heap.size ≤ gb101)); clear HB; have HB := n0_; have BK101 := n1_; have GW101 := n2_; have GE101 := n3_; clear n0_ n1_ n2_ n3_; clear hb hbox hg; have hcz26_0 : w25.cell? ⟨gb101, 0, none⟩ = some (.int .i64 a0_0) := (Go.Proofs.YtjgomlcdmpcoaaaDoorW.PrintWords.blk_cell BK101.out 0).trans rfl; have hcz26_1 : w25.cell? ⟨gb101, 1, none⟩ = some (.int .i64 a0_1) := (Go.Proofs.YtjgomlcdmpcoaaaDoorW.PrintWords.blk_cell BK101.out 1).trans rfl; have hcz26_2 : w25.cell? ⟨gb101, 2, none⟩ = some (.int .i64 a0_2) := (Go.Proofs.YtjgomlcdmpcoaaaDoorW.PrintWords.blk_cell BK101.out 2).trans rfl; have hcz26_3 : w25.cell? ⟨gb101, 3, none⟩ = some (.int .i64 a0_3) := (Go.Proofs.YtjgomlcdmpcoaaaDoorW.PrintWords.blk_cell BK101.out 3).trans rfl; have hcz26_4 : w25.cell? ⟨gb101, 4, none⟩ = some (.int .i64 a0_4) := (Go.Proofs.YtjgomlcdmpcoaaaDoorW.PrintWords.blk_cell BK101.out 4).trans rfl; have hcz26_5 : w25.cell? ⟨gb101, 5, none⟩ = some (.bool a0_5) := (Go.Proofs.YtjgomlcdmpcoaaaDoorW.PrintWords.blk_cell BK101.out 5).trans rfl; have hcz26_6 : w25.cell? ⟨gb101, 6, none⟩ = some (.string a0_6) := (Go.Proofs.YtjgomlcdmpcoaaaDoorW.PrintWords.blk_cell BK101.out 6).trans rfl; have hcz26_7 : w25.cell? ⟨gb101, 7, none⟩ = some (.bool a0_7) := (Go.Proofs.YtjgomlcdmpcoaaaDoorW.PrintWords.blk_cell BK101.out 7).trans rfl; have hfz26_0 := blk_frozen BK101.out 0; have hfz26_1 := blk_frozen BK101.out 1; have hfz26_2 := blk_frozen BK101.out 2; have hfz26_3 := blk_frozen BK101.out 3; have hfz26_4 := blk_frozen BK101.out 4; have hfz26_5 := blk_frozen BK101.out 5; have hfz26_6 := blk_frozen BK101.out 6; have hfz26_7 := blk_frozen BK101.out 7) | (go_at_call 60; (with_reducible refine (job_id.calls a0_2 true _ A6.out).mono ?_); rintro e w' ⟨rfl, ⟨nd, rfl⟩⟩) | (go_at_call 60; (with_reducible refine (job_id.calls a0_3 true _ A8.out).mono ?_); rintro e w' ⟨rfl, ⟨nd, rfl⟩⟩))
        go_ret; exact ⟨by first | rfl | (simp [errW_none, errW_some] <;> rfl) | (simp [*, errW_none, errW_some] <;> rfl), by repeat (first | (with_reducible first | exact HB.out | apply below_alloc | apply pw_below_drewN | apply below_drew1 | refine below_set ?_ GE101.out) | exact HB.out)⟩
      ·replace c9 := Bool.eq_false_iff.mpr c9
       subst c9; have H1 : (some false) = some r := by rw [if_neg (show ¬ (false = true) by decide)] at H; exact H
       clear H; have H := H1; clear H1; obtain rfl := Option.some.inj H; go_enter Tryd.func22, Tryd.ntmps22
       go_wp2_with (first | ((with_reducible refine gate_dst (N := 1) rfl ?_); (try (refine gate_guard (by rfl) ?_; dsimp only)); refine box_event ?hg (N := 1) ?hd (cs := #[.int .i64 a0_0, .int .i64 a0_1, .int .i64 a0_2, .int .i64 a0_3, .int .i64 a0_4, .bool a0_5, .string a0_6, .bool a0_7]) (t := 23) ?hr ?_; (case hd => rfl); (case hg => rfl); (case hr => first | (go_simp; done) | (go_simp; rfl)); intro gb101 hg w27 hbox hb; have n0_ := Aside0.mk (below_step (by repeat (first | (with_reducible first | exact HB.out | apply below_alloc | apply pw_below_drewN | apply below_drew1) | exact HB.out)) hb); have n1_ := Aside0.mk (hbox); have n2_ := Aside0.mk ((by rw [hg]; exact (below_size (by repeat (first | (with_reducible first | exact HB.out | apply below_alloc | apply pw_below_drewN | apply below_drew1) | exact HB.out))) : w.heap.size ≤ gb101)); have n3_ := Aside0.mk ((by rw [hg]; exact (below_size (by repeat (first | (with_reducible first | exact HB.out | apply below_alloc | apply pw_below_drewN | apply below_drew1) | exact HB.out))) : w.heap.size ≤ gb101)); clear HB; have HB := n0_; have BK101 := n1_; have GW101 := n2_; have GE101 := n3_; clear n0_ n1_ n2_ n3_; clear hb hbox hg; have hcz28_0 : w27.cell? ⟨gb101, 0, none⟩ = some (.int .i64 a0_0) := (Go.Proofs.YtjgomlcdmpcoaaaDoorW.PrintWords.blk_cell BK101.out 0).trans rfl; have hcz28_1 : w27.cell? ⟨gb101, 1, none⟩ = some (.int .i64 a0_1) := (Go.Proofs.YtjgomlcdmpcoaaaDoorW.PrintWords.blk_cell BK101.out 1).trans rfl; have hcz28_2 : w27.cell? ⟨gb101, 2, none⟩ = some (.int .i64 a0_2) := (Go.Proofs.YtjgomlcdmpcoaaaDoorW.PrintWords.blk_cell BK101.out 2).trans rfl; have hcz28_3 : w27.cell? ⟨gb101, 3, none⟩ = some (.int .i64 a0_3) := (Go.Proofs.YtjgomlcdmpcoaaaDoorW.PrintWords.blk_cell BK101.out 3).trans rfl; have hcz28_4 : w27.cell? ⟨gb101, 4, none⟩ = some (.int .i64 a0_4) := (Go.Proofs.YtjgomlcdmpcoaaaDoorW.PrintWords.blk_cell BK101.out 4).trans rfl; have hcz28_5 : w27.cell? ⟨gb101, 5, none⟩ = some (.bool a0_5) := (Go.Proofs.YtjgomlcdmpcoaaaDoorW.PrintWords.blk_cell BK101.out 5).trans rfl; have hcz28_6 : w27.cell? ⟨gb101, 6, none⟩ = some (.string a0_6) := (Go.Proofs.YtjgomlcdmpcoaaaDoorW.PrintWords.blk_cell BK101.out 6).trans rfl; have hcz28_7 : w27.cell? ⟨gb101, 7, none⟩ = some (.bool a0_7) := (Go.Proofs.YtjgomlcdmpcoaaaDoorW.PrintWords.blk_cell BK101.out 7).trans rfl; have hfz28_0 := blk_frozen BK101.out 0; have hfz28_1 := blk_frozen BK101.out 1; have hfz28_2 := blk_frozen BK101.out 2; have hfz28_3 := blk_frozen BK101.out 3; have hfz28_4 := blk_frozen BK101.out 4; have hfz28_5 := blk_frozen BK101.out 5; have hfz28_6 := blk_frozen BK101.out 6; have hfz28_7 := blk_frozen BK101.out 7) | (go_at_call 60; (with_reducible refine (job_id.calls a0_2 true _ A6.out).mono ?_); rintro e w' ⟨rfl, ⟨nd, rfl⟩⟩) | (go_at_call 60; (with_reducible refine (job_id.calls a0_3 false _ A8.out).mono ?_); rintro e w' ⟨rfl, ⟨nd, rfl⟩⟩))
       go_ret; exact ⟨by first | rfl | (simp [errW_none, errW_some] <;> rfl) | (simp [*, errW_none, errW_some] <;> rfl), by repeat (first | (with_reducible first | exact HB.out | apply below_alloc | apply pw_below_drewN | apply below_drew1 | refine below_set ?_ GE101.out) | exact HB.out)⟩
     ·replace c7 := Bool.eq_false_iff.mpr c7
      subst c7; have H1 : (some false) = some r := by rw [if_neg (show ¬ (false = true) by decide)] at H; exact H
      clear H; have H := H1; clear H1; obtain rfl := Option.some.inj H; go_enter Tryd.func22, Tryd.ntmps22
      go_wp2_with (first | ((with_reducible refine gate_dst (N := 1) rfl ?_); (try (refine gate_guard (by rfl) ?_; dsimp only)); refine box_event ?hg (N := 1) ?hd (cs := #[.int .i64 a0_0, .int .i64 a0_1, .int .i64 a0_2, .int .i64 a0_3, .int .i64 a0_4, .bool a0_5, .string a0_6, .bool a0_7]) (t := 23) ?hr ?_; (case hd => rfl); (case hg => rfl); (case hr => first | (go_simp; done) | (go_simp; rfl)); intro gb101 hg w29 hbox hb; have n0_ := Aside0.mk (below_step (by repeat (first | (with_reducible first | exact HB.out | apply below_alloc | apply pw_below_drewN | apply below_drew1) | exact HB.out)) hb); have n1_ := Aside0.mk (hbox); have n2_ := Aside0.mk ((by rw [hg]; exact (below_size (by repeat (first | (with_reducible first | exact HB.out | apply below_alloc | apply pw_below_drewN | apply below_drew1) | exact HB.out))) : w.heap.size ≤ gb101)); have n3_ := Aside0.mk ((by rw [hg]; exact (below_size (by repeat (first | (with_reducible first | exact HB.out | apply below_alloc | apply pw_below_drewN | apply below_drew1) | exact HB.out))) : w.heap.size ≤ gb101)); clear HB; have HB := n0_; have BK101 := n1_; have GW101 := n2_; have GE101 := n3_; clear n0_ n1_ n2_ n3_; clear hb hbox hg; have hcz30_0 : w29.cell? ⟨gb101, 0, none⟩ = some (.int .i64 a0_0) := (Go.Proofs.YtjgomlcdmpcoaaaDoorW.PrintWords.blk_cell BK101.out 0).trans rfl; have hcz30_1 : w29.cell? ⟨gb101, 1, none⟩ = some (.int .i64 a0_1) := (Go.Proofs.YtjgomlcdmpcoaaaDoorW.PrintWords.blk_cell BK101.out 1).trans rfl; have hcz30_2 : w29.cell? ⟨gb101, 2, none⟩ = some (.int .i64 a0_2) := (Go.Proofs.YtjgomlcdmpcoaaaDoorW.PrintWords.blk_cell BK101.out 2).trans rfl; have hcz30_3 : w29.cell? ⟨gb101, 3, none⟩ = some (.int .i64 a0_3) := (Go.Proofs.YtjgomlcdmpcoaaaDoorW.PrintWords.blk_cell BK101.out 3).trans rfl; have hcz30_4 : w29.cell? ⟨gb101, 4, none⟩ = some (.int .i64 a0_4) := (Go.Proofs.YtjgomlcdmpcoaaaDoorW.PrintWords.blk_cell BK101.out 4).trans rfl; have hcz30_5 : w29.cell? ⟨gb101, 5, none⟩ = some (.bool a0_5) := (Go.Proofs.YtjgomlcdmpcoaaaDoorW.PrintWords.blk_cell BK101.out 5).trans rfl; have hcz30_6 : w29.cell? ⟨gb101, 6, none⟩ = some (.string a0_6) := (Go.Proofs.YtjgomlcdmpcoaaaDoorW.PrintWords.blk_cell BK101.out 6).trans rfl; have hcz30_7 : w29.cell? ⟨gb101, 7, none⟩ = some (.bool a0_7) := (Go.Proofs.YtjgomlcdmpcoaaaDoorW.PrintWords.blk_cell BK101.out 7).trans rfl; have hfz30_0 := blk_frozen BK101.out 0; have hfz30_1 := blk_frozen BK101.out 1; have hfz30_2 := blk_frozen BK101.out 2; have hfz30_3 := blk_frozen BK101.out 3; have hfz30_4 := blk_frozen BK101.out 4; have hfz30_5 := blk_frozen BK101.out 5; have hfz30_6 := blk_frozen BK101.out 6; have hfz30_7 := blk_frozen BK101.out 7) | (go_at_call 60; (with_reducible refine (job_id.calls a0_2 false _ A6.out).mono ?_); rintro e w' ⟨rfl, ⟨nd, rfl⟩⟩))
      go_ret; exact ⟨by first | rfl | (simp [errW_none, errW_some] <;> rfl) | (simp [*, errW_none, errW_some] <;> rfl), by repeat (first | (with_reducible first | exact HB.out | apply below_alloc | apply pw_below_drewN | apply below_drew1 | refine below_set ?_ GE101.out) | exact HB.out)⟩
    ·rw [if_neg c5] at H
     have c5b0 : decide (a0_1 ≤ 11) = false := decide_eq_false c5
     clear c5; obtain rfl := Option.some.inj H; go_enter Tryd.func22, Tryd.ntmps22
     go_wp2_with (first | ((with_reducible refine gate_dst (N := 1) rfl ?_); (try (refine gate_guard (by rfl) ?_; dsimp only)); refine box_event ?hg (N := 1) ?hd (cs := #[.int .i64 a0_0, .int .i64 a0_1, .int .i64 a0_2, .int .i64 a0_3, .int .i64 a0_4, .bool a0_5, .string a0_6, .bool a0_7]) (t := 23) ?hr ?_; (case hd => rfl); (case hg => rfl); (case hr => first | (go_simp; done) | (go_simp; rfl)); intro gb101 hg w31 hbox hb; have n0_ := Aside0.mk (below_step (by repeat (first | (with_reducible first | exact HB.out | apply below_alloc | apply pw_below_drewN | apply below_drew1) | exact HB.out)) hb); have n1_ := Aside0.mk (hbox); have n2_ := Aside0.mk ((by rw [hg]; exact (below_size (by repeat (first | (with_reducible first | exact HB.out | apply below_alloc | apply pw_below_drewN | apply below_drew1) | exact HB.out))) : w.heap.size ≤ gb101)); have n3_ := Aside0.mk ((by rw [hg]; exact (below_size (by repeat (first | (with_reducible first | exact HB.out | apply below_alloc | apply pw_below_drewN | apply below_drew1) | exact HB.out))) : w.heap.size ≤ gb101)); clear HB; have HB := n0_; have BK101 := n1_; have GW101 := n2_; have GE101 := n3_; clear n0_ n1_ n2_ n3_; clear hb hbox hg; have hcz32_0 : w31.cell? ⟨gb101, 0, none⟩ = some (.int .i64 a0_0) := (Go.Proofs.YtjgomlcdmpcoaaaDoorW.PrintWords.blk_cell BK101.out 0).trans rfl; have hcz32_1 : w31.cell? ⟨gb101, 1, none⟩ = some (.int .i64 a0_1) := (Go.Proofs.YtjgomlcdmpcoaaaDoorW.PrintWords.blk_cell BK101.out 1).trans rfl; have hcz32_2 : w31.cell? ⟨gb101, 2, none⟩ = some (.int .i64 a0_2) := (Go.Proofs.YtjgomlcdmpcoaaaDoorW.PrintWords.blk_cell BK101.out 2).trans rfl; have hcz32_3 : w31.cell? ⟨gb101, 3, none⟩ = some (.int .i64 a0_3) := (Go.Proofs.YtjgomlcdmpcoaaaDoorW.PrintWords.blk_cell BK101.out 3).trans rfl; have hcz32_4 : w31.cell? ⟨gb101, 4, none⟩ = some (.int .i64 a0_4) := (Go.Proofs.YtjgomlcdmpcoaaaDoorW.PrintWords.blk_cell BK101.out 4).trans rfl; have hcz32_5 : w31.cell? ⟨gb101, 5, none⟩ = some (.bool a0_5) := (Go.Proofs.YtjgomlcdmpcoaaaDoorW.PrintWords.blk_cell BK101.out 5).trans rfl; have hcz32_6 : w31.cell? ⟨gb101, 6, none⟩ = some (.string a0_6) := (Go.Proofs.YtjgomlcdmpcoaaaDoorW.PrintWords.blk_cell BK101.out 6).trans rfl; have hcz32_7 : w31.cell? ⟨gb101, 7, none⟩ = some (.bool a0_7) := (Go.Proofs.YtjgomlcdmpcoaaaDoorW.PrintWords.blk_cell BK101.out 7).trans rfl; have hfz32_0 := blk_frozen BK101.out 0; have hfz32_1 := blk_frozen BK101.out 1; have hfz32_2 := blk_frozen BK101.out 2; have hfz32_3 := blk_frozen BK101.out 3; have hfz32_4 := blk_frozen BK101.out 4; have hfz32_5 := blk_frozen BK101.out 5; have hfz32_6 := blk_frozen BK101.out 6; have hfz32_7 := blk_frozen BK101.out 7))
     go_ret; exact ⟨by first | rfl | (simp [errW_none, errW_some] <;> rfl) | (simp [*, errW_none, errW_some] <;> rfl), by repeat (first | (with_reducible first | exact HB.out | apply below_alloc | apply pw_below_drewN | apply below_drew1 | refine below_set ?_ GE101.out) | exact HB.out)⟩
   ·rw [if_neg c4] at H
    have c4b0 : decide (6 ≤ a0_1) = false := decide_eq_false c4
    clear c4; obtain rfl := Option.some.inj H; go_enter Tryd.func22, Tryd.ntmps22
    go_wp2_with (first | ((with_reducible refine gate_dst (N := 1) rfl ?_); (try (refine gate_guard (by rfl) ?_; dsimp only)); refine box_event ?hg (N := 1) ?hd (cs := #[.int .i64 a0_0, .int .i64 a0_1, .int .i64 a0_2, .int .i64 a0_3, .int .i64 a0_4, .bool a0_5, .string a0_6, .bool a0_7]) (t := 23) ?hr ?_; (case hd => rfl); (case hg => rfl); (case hr => first | (go_simp; done) | (go_simp; rfl)); intro gb101 hg w33 hbox hb; have n0_ := Aside0.mk (below_step (by repeat (first | (with_reducible first | exact HB.out | apply below_alloc | apply pw_below_drewN | apply below_drew1) | exact HB.out)) hb); have n1_ := Aside0.mk (hbox); have n2_ := Aside0.mk ((by rw [hg]; exact (below_size (by repeat (first | (with_reducible first | exact HB.out | apply below_alloc | apply pw_below_drewN | apply below_drew1) | exact HB.out))) : w.heap.size ≤ gb101)); have n3_ := Aside0.mk ((by rw [hg]; exact (below_size (by repeat (first | (with_reducible first | exact HB.out | apply below_alloc | apply pw_below_drewN | apply below_drew1) | exact HB.out))) : w.heap.size ≤ gb101)); clear HB; have HB := n0_; have BK101 := n1_; have GW101 := n2_; have GE101 := n3_; clear n0_ n1_ n2_ n3_; clear hb hbox hg; have hcz34_0 : w33.cell? ⟨gb101, 0, none⟩ = some (.int .i64 a0_0) := (Go.Proofs.YtjgomlcdmpcoaaaDoorW.PrintWords.blk_cell BK101.out 0).trans rfl; have hcz34_1 : w33.cell? ⟨gb101, 1, none⟩ = some (.int .i64 a0_1) := (Go.Proofs.YtjgomlcdmpcoaaaDoorW.PrintWords.blk_cell BK101.out 1).trans rfl; have hcz34_2 : w33.cell? ⟨gb101, 2, none⟩ = some (.int .i64 a0_2) := (Go.Proofs.YtjgomlcdmpcoaaaDoorW.PrintWords.blk_cell BK101.out 2).trans rfl; have hcz34_3 : w33.cell? ⟨gb101, 3, none⟩ = some (.int .i64 a0_3) := (Go.Proofs.YtjgomlcdmpcoaaaDoorW.PrintWords.blk_cell BK101.out 3).trans rfl; have hcz34_4 : w33.cell? ⟨gb101, 4, none⟩ = some (.int .i64 a0_4) := (Go.Proofs.YtjgomlcdmpcoaaaDoorW.PrintWords.blk_cell BK101.out 4).trans rfl; have hcz34_5 : w33.cell? ⟨gb101, 5, none⟩ = some (.bool a0_5) := (Go.Proofs.YtjgomlcdmpcoaaaDoorW.PrintWords.blk_cell BK101.out 5).trans rfl; have hcz34_6 : w33.cell? ⟨gb101, 6, none⟩ = some (.string a0_6) := (Go.Proofs.YtjgomlcdmpcoaaaDoorW.PrintWords.blk_cell BK101.out 6).trans rfl; have hcz34_7 : w33.cell? ⟨gb101, 7, none⟩ = some (.bool a0_7) := (Go.Proofs.YtjgomlcdmpcoaaaDoorW.PrintWords.blk_cell BK101.out 7).trans rfl; have hfz34_0 := blk_frozen BK101.out 0; have hfz34_1 := blk_frozen BK101.out 1; have hfz34_2 := blk_frozen BK101.out 2; have hfz34_3 := blk_frozen BK101.out 3; have hfz34_4 := blk_frozen BK101.out 4; have hfz34_5 := blk_frozen BK101.out 5; have hfz34_6 := blk_frozen BK101.out 6; have hfz34_7 := blk_frozen BK101.out 7))
    go_ret; exact ⟨by first | rfl | (simp [errW_none, errW_some] <;> rfl) | (simp [*, errW_none, errW_some] <;> rfl), by repeat (first | (with_reducible first | exact HB.out | apply below_alloc | apply pw_below_drewN | apply below_drew1 | refine below_set ?_ GE101.out) | exact HB.out)⟩
  ·rw [if_neg c3] at H
   have c3b0 : decide (a0_0 < 1099511627776) = false := decide_eq_false c3
   clear c3; obtain rfl := Option.some.inj H; go_enter Tryd.func22, Tryd.ntmps22
   go_wp2_with (first | ((with_reducible refine gate_dst (N := 1) rfl ?_); (try (refine gate_guard (by rfl) ?_; dsimp only)); refine box_event ?hg (N := 1) ?hd (cs := #[.int .i64 a0_0, .int .i64 a0_1, .int .i64 a0_2, .int .i64 a0_3, .int .i64 a0_4, .bool a0_5, .string a0_6, .bool a0_7]) (t := 23) ?hr ?_; (case hd => rfl); (case hg => rfl); (case hr => first | (go_simp; done) | (go_simp; rfl)); intro gb101 hg w35 hbox hb; have n0_ := Aside0.mk (below_step (by repeat (first | (with_reducible first | exact HB.out | apply below_alloc | apply pw_below_drewN | apply below_drew1) | exact HB.out)) hb); have n1_ := Aside0.mk (hbox); have n2_ := Aside0.mk ((by rw [hg]; exact (below_size (by repeat (first | (with_reducible first | exact HB.out | apply below_alloc | apply pw_below_drewN | apply below_drew1) | exact HB.out))) : w.heap.size ≤ gb101)); have n3_ := Aside0.mk ((by rw [hg]; exact (below_size (by repeat (first | (with_reducible first | exact HB.out | apply below_alloc | apply pw_below_drewN | apply below_drew1) | exact HB.out))) : w.heap.size ≤ gb101)); clear HB; have HB := n0_; have BK101 := n1_; have GW101 := n2_; have GE101 := n3_; clear n0_ n1_ n2_ n3_; clear hb hbox hg; have hcz36_0 : w35.cell? ⟨gb101, 0, none⟩ = some (.int .i64 a0_0) := (Go.Proofs.YtjgomlcdmpcoaaaDoorW.PrintWords.blk_cell BK101.out 0).trans rfl; have hcz36_1 : w35.cell? ⟨gb101, 1, none⟩ = some (.int .i64 a0_1) := (Go.Proofs.YtjgomlcdmpcoaaaDoorW.PrintWords.blk_cell BK101.out 1).trans rfl; have hcz36_2 : w35.cell? ⟨gb101, 2, none⟩ = some (.int .i64 a0_2) := (Go.Proofs.YtjgomlcdmpcoaaaDoorW.PrintWords.blk_cell BK101.out 2).trans rfl; have hcz36_3 : w35.cell? ⟨gb101, 3, none⟩ = some (.int .i64 a0_3) := (Go.Proofs.YtjgomlcdmpcoaaaDoorW.PrintWords.blk_cell BK101.out 3).trans rfl; have hcz36_4 : w35.cell? ⟨gb101, 4, none⟩ = some (.int .i64 a0_4) := (Go.Proofs.YtjgomlcdmpcoaaaDoorW.PrintWords.blk_cell BK101.out 4).trans rfl; have hcz36_5 : w35.cell? ⟨gb101, 5, none⟩ = some (.bool a0_5) := (Go.Proofs.YtjgomlcdmpcoaaaDoorW.PrintWords.blk_cell BK101.out 5).trans rfl; have hcz36_6 : w35.cell? ⟨gb101, 6, none⟩ = some (.string a0_6) := (Go.Proofs.YtjgomlcdmpcoaaaDoorW.PrintWords.blk_cell BK101.out 6).trans rfl; have hcz36_7 : w35.cell? ⟨gb101, 7, none⟩ = some (.bool a0_7) := (Go.Proofs.YtjgomlcdmpcoaaaDoorW.PrintWords.blk_cell BK101.out 7).trans rfl; have hfz36_0 := blk_frozen BK101.out 0; have hfz36_1 := blk_frozen BK101.out 1; have hfz36_2 := blk_frozen BK101.out 2; have hfz36_3 := blk_frozen BK101.out 3; have hfz36_4 := blk_frozen BK101.out 4; have hfz36_5 := blk_frozen BK101.out 5; have hfz36_6 := blk_frozen BK101.out 6; have hfz36_7 := blk_frozen BK101.out 7))
   go_ret; exact ⟨by first | rfl | (simp [errW_none, errW_some] <;> rfl) | (simp [*, errW_none, errW_some] <;> rfl), by repeat (first | (with_reducible first | exact HB.out | apply below_alloc | apply pw_below_drewN | apply below_drew1 | refine below_set ?_ GE101.out) | exact HB.out)⟩
 ·rw [if_neg c2] at H
  have c2b0 : decide (1 ≤ a0_0) = false := decide_eq_false c2
  clear c2; obtain rfl := Option.some.inj H; go_enter Tryd.func22, Tryd.ntmps22
  go_wp2_with (first | ((with_reducible refine gate_dst (N := 1) rfl ?_); (try (refine gate_guard (by rfl) ?_; dsimp only)); refine box_event ?hg (N := 1) ?hd (cs := #[.int .i64 a0_0, .int .i64 a0_1, .int .i64 a0_2, .int .i64 a0_3, .int .i64 a0_4, .bool a0_5, .string a0_6, .bool a0_7]) (t := 23) ?hr ?_; (case hd => rfl); (case hg => rfl); (case hr => first | (go_simp; done) | (go_simp; rfl)); intro gb101 hg w37 hbox hb; have n0_ := Aside0.mk (below_step (by repeat (first | (with_reducible first | exact HB.out | apply below_alloc | apply pw_below_drewN | apply below_drew1) | exact HB.out)) hb); have n1_ := Aside0.mk (hbox); have n2_ := Aside0.mk ((by rw [hg]; exact (below_size (by repeat (first | (with_reducible first | exact HB.out | apply below_alloc | apply pw_below_drewN | apply below_drew1) | exact HB.out))) : w.heap.size ≤ gb101)); have n3_ := Aside0.mk ((by rw [hg]; exact (below_size (by repeat (first | (with_reducible first | exact HB.out | apply below_alloc | apply pw_below_drewN | apply below_drew1) | exact HB.out))) : w.heap.size ≤ gb101)); clear HB; have HB := n0_; have BK101 := n1_; have GW101 := n2_; have GE101 := n3_; clear n0_ n1_ n2_ n3_; clear hb hbox hg; have hcz38_0 : w37.cell? ⟨gb101, 0, none⟩ = some (.int .i64 a0_0) := (Go.Proofs.YtjgomlcdmpcoaaaDoorW.PrintWords.blk_cell BK101.out 0).trans rfl; have hcz38_1 : w37.cell? ⟨gb101, 1, none⟩ = some (.int .i64 a0_1) := (Go.Proofs.YtjgomlcdmpcoaaaDoorW.PrintWords.blk_cell BK101.out 1).trans rfl; have hcz38_2 : w37.cell? ⟨gb101, 2, none⟩ = some (.int .i64 a0_2) := (Go.Proofs.YtjgomlcdmpcoaaaDoorW.PrintWords.blk_cell BK101.out 2).trans rfl; have hcz38_3 : w37.cell? ⟨gb101, 3, none⟩ = some (.int .i64 a0_3) := (Go.Proofs.YtjgomlcdmpcoaaaDoorW.PrintWords.blk_cell BK101.out 3).trans rfl; have hcz38_4 : w37.cell? ⟨gb101, 4, none⟩ = some (.int .i64 a0_4) := (Go.Proofs.YtjgomlcdmpcoaaaDoorW.PrintWords.blk_cell BK101.out 4).trans rfl; have hcz38_5 : w37.cell? ⟨gb101, 5, none⟩ = some (.bool a0_5) := (Go.Proofs.YtjgomlcdmpcoaaaDoorW.PrintWords.blk_cell BK101.out 5).trans rfl; have hcz38_6 : w37.cell? ⟨gb101, 6, none⟩ = some (.string a0_6) := (Go.Proofs.YtjgomlcdmpcoaaaDoorW.PrintWords.blk_cell BK101.out 6).trans rfl; have hcz38_7 : w37.cell? ⟨gb101, 7, none⟩ = some (.bool a0_7) := (Go.Proofs.YtjgomlcdmpcoaaaDoorW.PrintWords.blk_cell BK101.out 7).trans rfl; have hfz38_0 := blk_frozen BK101.out 0; have hfz38_1 := blk_frozen BK101.out 1; have hfz38_2 := blk_frozen BK101.out 2; have hfz38_3 := blk_frozen BK101.out 3; have hfz38_4 := blk_frozen BK101.out 4; have hfz38_5 := blk_frozen BK101.out 5; have hfz38_6 := blk_frozen BK101.out 6; have hfz38_7 := blk_frozen BK101.out 7))
  go_ret; exact ⟨by first | rfl | (simp [errW_none, errW_some] <;> rfl) | (simp [*, errW_none, errW_some] <;> rfl), by repeat (first | (with_reducible first | exact HB.out | apply below_alloc | apply pw_below_drewN | apply below_drew1 | refine below_set ?_ GE101.out) | exact HB.out)⟩
end Go.Proofs.YtjgomlcdmpcoaaaDoor.D
namespace Go.Proofs.YtjgomlcdmpcoaaaDoor.H
open Go.RowKit Go.Proofs.YtjgomlcdmpcoaaaDoorW.PrintWords Go.Proofs.YtjgomlcdmpcoaaaDoorW.PrintLast Go.Proofs.YtjgomlcdmpcoaaaDoorW.PrintMore
open Go.Proofs.YtjgomlcdmpcoaaaDoor.D Go.Proofs.YtjgomlcdmpcoaaaDoor
set_option linter.unusedVariables false
set_option linter.unusedSimpArgs false
def jobB (a0 a1 a2 a3 a4 : Int) (fr : ByteArray) (bad : Bool) : Bool := decide (1 ≤ a0) && (decide (a0 < 1099511627776) && (decide (6 ≤ a1) && (decide (a1 ≤ 11) && (decide (1 ≤ a2) && (decide (a2 ≤ 60000) && (decide (1 ≤ a3) && (decide (a3 ≤ 60000) && (decide (1 ≤ a4) && (decide (a4 ≤ 4) && (decide (fr.size ≤ 1001) && ((!bad || (a4 == 2 || a4 == 4)))))))))))))
theorem job_id_f (n : Int) : job_id.f n = some (decide (1 ≤ n) && decide (n ≤ 60000)) := by
  unfold job_id.f
  by_cases h : n ≥ 1
  · rw [if_pos h]; simp [show 1 ≤ n from h]
  · rw [if_neg h]; simp [show ¬ 1 ≤ n from h]
theorem jmay_f (a0 a1 a2 a3 a4 : Int) (rd : Bool) (fr : ByteArray) (bad : Bool) : job_May.f a0 a1 a2 a3 a4 rd fr bad = some (jobB a0 a1 a2 a3 a4 fr bad) := by
  unfold job_May.f jobB
  rw [job_id_f, job_id_f]
  simp only [Option.bind_some]
  by_cases c1 : 1 ≤ a0 <;> by_cases c2 : a0 < 1099511627776 <;> by_cases c3 : 6 ≤ a1 <;> by_cases c4 : a1 ≤ 11 <;> simp only [c1, c2, c3, c4, ge_iff_le, if_true, if_false, decide_true, decide_false, Bool.true_and, Bool.false_and]
  by_cases c5 : 1 ≤ a2 <;> by_cases c6 : a2 ≤ 60000 <;> simp only [c5, c6, if_true, if_false, decide_true, decide_false, Bool.true_and, Bool.false_and, Bool.and_false, Bool.and_true, Bool.false_eq_true]
  by_cases c7 : 1 ≤ a3 <;> by_cases c8 : a3 ≤ 60000 <;> simp only [c7, c8, if_true, if_false, decide_true, decide_false, Bool.true_and, Bool.false_and, Bool.and_false, Bool.and_true, Bool.false_eq_true]
  by_cases c9 : 1 ≤ a4 <;> by_cases c10 : a4 ≤ 4 <;> simp only [c9, c10, if_true, if_false, decide_true, decide_false, Bool.true_and, Bool.false_and, Bool.and_false, Bool.and_true, Bool.false_eq_true]
  by_cases c11 : fr.size ≤ 1001
  · rw [if_pos (by omega)]
    simp only [c11, decide_true, Bool.true_and]
    cases bad
    · rfl
    · simp only [if_true, Bool.not_true, Bool.false_or]
      by_cases c12 : a4 = 2 <;> simp [c12]
  · rw [if_neg (by omega)]
    simp [c11]
theorem jmay_calls (a0 a1 a2 a3 a4 : Int) (rd : Bool) (fr : ByteArray) (bad : Bool) (w : World) :
    Calls Tryd.prog 22 #[.agg #[.int .i64 a0, .int .i64 a1, .int .i64 a2, .int .i64 a3, .int .i64 a4, .bool rd, .string fr, .bool bad]] w fun e w' => e = .returned (.bool (jobB a0 a1 a2 a3 a4 fr bad)) ∧ Below w.heap.size w w' :=
  (job_May.calls a0 a1 a2 a3 a4 rd fr bad _ w (jmay_f a0 a1 a2 a3 a4 rd fr bad)).mono fun e w' h => ⟨h.1, by first | exact h.2 | exact h.2.below⟩
end Go.Proofs.YtjgomlcdmpcoaaaDoor.H
