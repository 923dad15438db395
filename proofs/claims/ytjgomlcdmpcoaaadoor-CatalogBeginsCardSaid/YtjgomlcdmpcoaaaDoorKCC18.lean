/- Own texts of this session, packed by its program wip/pp/pack.py: lemmas and walks of functions. -/
import Derived.Test.YtjgomlcdmpcoaaaDoorKCC3
import Derived.Test.YtjgomlcdmpcoaaaDoorKCC14
import Derived.Test.YtjgomlcdmpcoaaaDoorKCC16
import Derived.Test.YtjgomlcdmpcoaaaDoorKCC17
namespace Go.Proofs.YtjgomlcdmpcoaaaDoor.H
open Go.RowKit Go.Proofs.YtjgomlcdmpcoaaaDoorW.PrintWords Go.Proofs.YtjgomlcdmpcoaaaDoorW.PrintLast Go.Proofs.YtjgomlcdmpcoaaaDoorW.PrintMore
open Go.Proofs.YtjgomlcdmpcoaaaDoor.D Go.Proofs.YtjgomlcdmpcoaaaDoor
set_option linter.unusedVariables false
set_option linter.unusedSimpArgs false
section
variable {w0 W0 W W1 : World} {g n cap : Nat} {ts : List S70} {i : Nat} {oki : Nat → Prop} {t t' : S70} {cv iv : Value}
theorem UpdSt.putI {gi m c : Nat} (h : UpdSt w0 W0 W g n cap ts i oki t cv (.slice (some ⟨gi, 0, none⟩) m c)) (k : Nat) (hk : k < t.f3.length) (st : Int)
    (ht : (⟨t.f0, t.f1, t.f2, t.f3.set k ⟨t.f3[k].f0, t.f3[k].f1, t.f3[k].f2, t.f3[k].f3, st⟩, t.f4⟩ : S70) = t') :
    UpdSt w0 W0 (W.setCell ⟨gi, k * 5 + 4, none⟩ (.int .i64 st)) g n cap ts i oki t' cv (.slice (some ⟨gi, 0, none⟩) m c) := by
  subst ht
  have hm := (Kd.R_reads' h.lent.inds).1
  obtain ⟨cs, hcl, hM, hcc, _⟩ := Kd.R_elem h.lent.inds z98 (k : Int) (by omega) (by omega)
  rw [show t.f3.getD (k : Int).toNat z98 = t.f3[k] by simp [List.getD, hk]] at hM
  obtain ⟨v2, rfl, h2⟩ := k98_openM hM
  obtain ⟨hr, hg⟩ := Kd.R_seg h.lent.inds (k : Int) (by omega) (by omega) (seg := [.int .i64 st]) (j := 4) hcl hcc (Nat.le_of_ble_eq_true rfl) (x' := ⟨t.f3[k].f0, t.f3[k].f1, t.f3[k].f2, t.f3[k].f3, st⟩) (k98_mkM W w0.heap.size _ ⟨t.f3[k].f0, t.f3[k].f1, t.f3[k].f2, t.f3[k].f3, st⟩ h2) (fun k hk => hk)
  have ho : ∀ j, some gi = some j → oki j := fun j hj => h.lent.inds.1 j (by rw [← hj]; simp [Value.ownBlock])
  have hty := Kd.R_typed h.lent.inds gi (by simp [Value.ownBlock])
  obtain ⟨cells, hcells⟩ := hty
  have hbase := Kd.R_base h.lent.inds gi (by simp [Value.ownBlock])
  exact ⟨⟨h.lent.grown hg ho, h.lent.lt, Kd.R_set h.lent.cols hcells (by decide) _ _, hr, fun k hk => h.lent.fresh k (by simpa [World.setCell] using hk)⟩, h.tch.trans (Tch.of_set hcells (.inr (.inr rfl)) hbase _), h.base⟩
theorem UpdSt.putS {gi m c : Nat} (h : UpdSt w0 W0 W g n cap ts i oki t (.slice (some ⟨gi, 0, none⟩) m c) iv) (k : Nat) (hk : k < t.f2.length) (st : Int)
    (ht : (⟨t.f0, t.f1, t.f2.set k ⟨t.f2[k].f0, t.f2[k].f1, t.f2[k].f2, st, t.f2[k].f4, t.f2[k].f5⟩, t.f3, t.f4⟩ : S70) = t') :
    UpdSt w0 W0 (W.setCell ⟨gi, k * 9 + 3, none⟩ (.int .i64 st)) g n cap ts i oki t' (.slice (some ⟨gi, 0, none⟩) m c) iv := by
  subst ht
  have hm := (Kd.R_reads' h.lent.cols).1
  obtain ⟨cs, hcl, hM, hcc, _⟩ := Kd.R_elem h.lent.cols z75 (k : Int) (by omega) (by omega)
  rw [show t.f2.getD (k : Int).toNat z75 = t.f2[k] by simp [List.getD, hk]] at hM
  obtain rfl := k75_openM hM
  obtain ⟨hr, hg⟩ := Kd.R_seg h.lent.cols (k : Int) (by omega) (by omega) (seg := [.int .i64 st]) (j := 3) hcl hcc (Nat.le_of_ble_eq_true rfl) (x' := ⟨t.f2[k].f0, t.f2[k].f1, t.f2[k].f2, st, t.f2[k].f4, t.f2[k].f5⟩) (k75_mkM W w0.heap.size _ ⟨t.f2[k].f0, t.f2[k].f1, t.f2[k].f2, st, t.f2[k].f4, t.f2[k].f5⟩) (okp := fun _ => False) (fun k hk => hk.elim)
  have ho : ∀ j, some gi = some j → oki j := fun j hj => h.lent.cols.1 j (by rw [← hj]; simp [Value.ownBlock])
  obtain ⟨cells, hcells⟩ := Kd.R_typed h.lent.cols gi (by simp [Value.ownBlock])
  have hbase := Kd.R_base h.lent.cols gi (by simp [Value.ownBlock])
  exact ⟨⟨h.lent.grown hg ho, h.lent.lt, hr, Kd.R_set h.lent.inds hcells (by decide) _ _, fun k hk => h.lent.fresh k (by simpa [World.setCell] using hk)⟩, h.tch.trans (Tch.of_set hcells (.inr (.inl rfl)) hbase _), h.base⟩
theorem UpdSt.putN {gi m c : Nat} (h : UpdSt w0 W0 W g n cap ts i oki t (.slice (some ⟨gi, 0, none⟩) m c) iv) (k : Nat) (hk : k < t.f2.length) (st : Int)
    (ht : (⟨t.f0, t.f1, t.f2.set k ⟨t.f2[k].f0, t.f2[k].f1, t.f2[k].f2, t.f2[k].f3, st, t.f2[k].f5⟩, t.f3, t.f4⟩ : S70) = t') :
    UpdSt w0 W0 (W.setCell ⟨gi, k * 9 + 4, none⟩ (.int .i64 st)) g n cap ts i oki t' (.slice (some ⟨gi, 0, none⟩) m c) iv := by
  subst ht
  have hm := (Kd.R_reads' h.lent.cols).1
  obtain ⟨cs, hcl, hM, hcc, _⟩ := Kd.R_elem h.lent.cols z75 (k : Int) (by omega) (by omega)
  rw [show t.f2.getD (k : Int).toNat z75 = t.f2[k] by simp [List.getD, hk]] at hM
  obtain rfl := k75_openM hM
  obtain ⟨hr, hg⟩ := Kd.R_seg h.lent.cols (k : Int) (by omega) (by omega) (seg := [.int .i64 st]) (j := 4) hcl hcc (Nat.le_of_ble_eq_true rfl) (x' := ⟨t.f2[k].f0, t.f2[k].f1, t.f2[k].f2, t.f2[k].f3, st, t.f2[k].f5⟩) (k75_mkM W w0.heap.size _ ⟨t.f2[k].f0, t.f2[k].f1, t.f2[k].f2, t.f2[k].f3, st, t.f2[k].f5⟩) (okp := fun _ => False) (fun k hk => hk.elim)
  have ho : ∀ j, some gi = some j → oki j := fun j hj => h.lent.cols.1 j (by rw [← hj]; simp [Value.ownBlock])
  obtain ⟨cells, hcells⟩ := Kd.R_typed h.lent.cols gi (by simp [Value.ownBlock])
  have hbase := Kd.R_base h.lent.cols gi (by simp [Value.ownBlock])
  exact ⟨⟨h.lent.grown hg ho, h.lent.lt, hr, Kd.R_set h.lent.inds hcells (by decide) _ _, fun k hk => h.lent.fresh k (by simpa [World.setCell] using hk)⟩, h.tch.trans (Tch.of_set hcells (.inr (.inl rfl)) hbase _), h.base⟩
end
end Go.Proofs.YtjgomlcdmpcoaaaDoor.H
namespace Go.Proofs.YtjgomlcdmpcoaaaDoor.H
open Go.RowKit Go.Proofs.YtjgomlcdmpcoaaaDoorW.PrintWords Go.Proofs.YtjgomlcdmpcoaaaDoorW.PrintLast Go.Proofs.YtjgomlcdmpcoaaaDoorW.PrintMore
open Go.Proofs.YtjgomlcdmpcoaaaDoor.D Go.Proofs.YtjgomlcdmpcoaaaDoor
set_option linter.unusedVariables false
set_option linter.unusedSimpArgs false
theorem enters174 (args : Array Value) (w : World) : (callFunc 174 args).run Tryd.prog w = .ok (.enter 174 args) w := enters Tryd.func174 (by kernel_rfl) rfl args w
theorem enters180 (args : Array Value) (w : World) : (callFunc 180 args).run Tryd.prog w = .ok (.enter 180 args) w := enters Tryd.func180 (by kernel_rfl) rfl args w
theorem enters149 (args : Array Value) (w : World) : (callFunc 149 args).run Tryd.prog w = .ok (.enter 149 args) w := enters Tryd.func149 (by kernel_rfl) rfl args w
set_option maxRecDepth 100000 in
set_option maxHeartbeats 4000000 in
theorem indexOf_no (E : Nat) (pa : Addr) (sp : Value) (at0 : Int) (ix0 rl0 : Bool) (xs : List S98) (A : Option Addr) (c : Nat) (id : Int) (w : World) (hE : w.heap[E]? = some (.cells #[.pointer (some pa), sp, .int .i64 at0, .bool ix0, .bool rl0] 148 (0, 0)))
    (hp : w.cell? ⟨pa.block, pa.off + 3, none⟩ = some (.slice A xs.length c)) (hC : k98.C w A xs.length xs) (hpE : pa.block ≠ E) (hk : idxL (xId id) xs 0 = -1) :
    Calls Tryd.prog 146 #[.pointer (some ⟨E, 0, none⟩), .int .i64 id] w fun e w' => e = .returned (.bool false) ∧ Below E w w' := by
  have hEl := blk_lt hE
  have HX := Aside0.mk (blk_alloc hE (.cells #[.int .i64 id] 3))
  have hmf : ∀ (fn : Fn) (first cap : Array Value) (w : World), (Instr.makeFunc fn first cap).run Tryd.prog w = .ok (.func fn first cap) w := fun _ _ _ _ => rfl
  have e0 := blk_cell (j := 0) (v := .pointer (some pa)) hE rfl
  have HQ := Lib.hid (idx98 174 #[.pointer (some ⟨w.heap.size, 0, none⟩)] enters174 (fun x => x.f0 == id) A c xs (w.alloc (.cells #[.int .i64 id] 3)) (Kd.C_below hC (below_alloc (Below.refl _ _) _)) (pred174 id w.heap.size _ (by simp) (blk_cell (heap_alloc_new w (.cells #[.int .i64 id] 3)) rfl)))
  rw [idxL_same (fun x : S98 => x.f0 == id) (xId id) (fun x => by unfold xId; rfl), hk] at HQ
  have hl := World.block_lt_of_cell? w _ hp
  clear hC hk
  go_enter Tryd.func146, Tryd.ntmps146
  go_wp2_with fail
  refine HQ.out.mono ?_
  rintro e w1 ⟨rfl, hb1⟩
  have hx1 := blk_below HX.out hb1
  have c2 := blk_cell (j := 2) (v := .int .i64 at0) hx1 rfl
  have f2 := blk_frozen hx1 2
  have hbb : Below E w (w1.setCell ⟨E, 2, none⟩ (.int .i64 (-1))) := Below.setCell (p := ⟨E, 2, none⟩) (((below_alloc (Below.refl _ w) (.cells #[.int .i64 id] 3)).trans (hb1.mono (by simp))).mono (Nat.le_of_lt hEl)) (Nat.le_refl _) _
  have HB := Aside0.mk hbb
  clear hx1 hbb hb1 e0 hE
  go_wp2
  go_ret
  exact ⟨rfl, HB.out⟩
def ElemOk (E : Nat) (pa : Addr) (st : Addr) (k : Nat) (ix rl : Bool) (w : World) : Prop := w.heap[E]? = some (.cells #[.pointer (some pa), .pointer (some st), .int .i64 k, .bool ix, .bool rl] 148 (0, 0))
set_option maxRecDepth 100000 in
set_option maxHeartbeats 4000000 in
theorem indexOf_yes (E : Nat) (pa : Addr) (sp : Value) (at0 : Int) (ix0 rl0 : Bool) (xs : List S98) (ad : Addr) (c : Nat) (id : Int) (k : Nat) (w : World) (hE : w.heap[E]? = some (.cells #[.pointer (some pa), sp, .int .i64 at0, .bool ix0, .bool rl0] 148 (0, 0))) (hsp : sp = .pointer none)
    (hp : w.cell? ⟨pa.block, pa.off + 3, none⟩ = some (.slice (some ad) xs.length c)) (hC : k98.C w (some ad) xs.length xs) (hpE : pa.block ≠ E) (hk : idxL (xId id) xs 0 = (k : Int)) (hkl : k < xs.length) :
    Calls Tryd.prog 146 #[.pointer (some ⟨E, 0, none⟩), .int .i64 id] w fun e w' => e = .returned (.bool true) ∧ Below E w w' ∧ ElemOk E pa ⟨(ad.add (k * 5)).block, (ad.add (k * 5)).off + 4, none⟩ k true rl0 w' := by
  obtain ⟨A, hA⟩ : ∃ A, A = some ad := ⟨_, rfl⟩
  rw [← hA] at hp hC
  have hEl := blk_lt hE
  have HX := Aside0.mk (blk_alloc hE (.cells #[.int .i64 id] 3))
  have hmf : ∀ (fn : Fn) (first cap : Array Value) (w : World), (Instr.makeFunc fn first cap).run Tryd.prog w = .ok (.func fn first cap) w := fun _ _ _ _ => rfl
  have e0 := blk_cell (j := 0) (v := .pointer (some pa)) hE rfl
  have HQ := Lib.hid (idx98 174 #[.pointer (some ⟨w.heap.size, 0, none⟩)] enters174 (fun x => x.f0 == id) A c xs (w.alloc (.cells #[.int .i64 id] 3)) (Kd.C_below hC (below_alloc (Below.refl _ _) _)) (pred174 id w.heap.size _ (by simp) (blk_cell (heap_alloc_new w (.cells #[.int .i64 id] 3)) rfl)))
  rw [idxL_same (fun x : S98 => x.f0 == id) (xId id) (fun x => by unfold xId; rfl), hk] at HQ
  have hl := World.block_lt_of_cell? w _ hp
  rw [hA] at HQ hp
  have hki : (k : Int) < (xs.length : Int) := by omega
  have hk0 : (0 : Int) ≤ (k : Int) := by omega
  subst hsp
  clear hC hk hA
  go_enter Tryd.func146, Tryd.ntmps146
  go_wp2_with fail
  refine HQ.out.mono ?_
  rintro e w1 ⟨rfl, hb1⟩
  have hx1 := blk_below HX.out hb1
  have c2 := blk_cell (j := 2) (v := .int .i64 at0) hx1 rfl
  have f2 := blk_frozen hx1 2
  have HB := Aside0.mk (((below_alloc (Below.refl _ w) (.cells #[.int .i64 id] 3)).trans (hb1.mono (by simp))).mono (Nat.le_of_lt hEl) : Below E w w1)
  have hp1 := pw_cell_below (below_then (below_alloc (Below.refl _ w) (.cells #[.int .i64 id] 3)) (by simp) hb1) hp
  have HX1 := Aside0.mk hx1
  clear hx1 hb1 e0 hE hp
  go_wp2_with fail
  have hx2 := blk_put HX1.out 2 (.int .i64 (k : Int)) rfl
  have hp2 : (w1.setCell ⟨E, 2, none⟩ (.int .i64 (k : Int))).cell? ⟨pa.block, pa.off + 3, none⟩ = some (.slice (some ad) xs.length c) := by
    rw [← hp1]; exact cell_same (Below.heap_setCell _ _ _ _ hpE)
  have HB2 := Aside0.mk (HB.out.setCell (p := ⟨E, 2, none⟩) (Nat.le_refl _) (.int .i64 (k : Int)))
  clear c2 f2 hp1 HX1 HB HX
  generalize w1.setCell ⟨E, 2, none⟩ (.int .i64 (k : Int)) = w2 at hx2 hp2 HB2 ⊢
  have c0 := blk_cell (j := 0) (v := .pointer (some pa)) hx2 rfl
  have c1 := blk_cell (j := 1) (v := .pointer none) hx2 rfl
  have c2 := blk_cell (j := 2) (v := .int .i64 (k : Int)) hx2 rfl
  have c3 := blk_cell (j := 3) (v := .bool ix0) hx2 rfl
  have f1 := blk_frozen hx2 1
  have f3 := blk_frozen hx2 3
  have hpE' : ¬ E = pa.block := Ne.symm hpE
  have HX2 := Aside0.mk hx2
  clear hx2
  go_region
  all_goals
    go_wp2
    go_ret
    exact ⟨rfl, below_drew ((HB2.out.setCell (p := ⟨E, 1, none⟩) (Nat.le_refl _) _).setCell (p := ⟨E, 3, none⟩) (Nat.le_refl _) _), blk_put (blk_put HX2.out 1 _ rfl) 3 _ rfl⟩
theorem eql_f146 (w : World) : (binOp BinOp.eql 176 (Value.func (Fn.func 146) #[] #[]) Value.nilFunc).run Tryd.prog w = .ok (.bool false) w := by kernel_rfl
theorem enters146 (args : Array Value) (w : World) : (callFunc 146 args).run Tryd.prog w = .ok (.enter 146 args) w := enters Tryd.func146 (by kernel_rfl) rfl args w
set_option maxRecDepth 100000 in
set_option maxHeartbeats 4000000 in
theorem find6_yes (X : Nat) (v nx kind table elem : Int) (ts : List S70) (ad : Addr) (c i k : Nat) (w : World) (hkd : finder kind = .func (.func 146) #[] #[]) (hX : w.heap[X]? = some (.cells #[.int .i64 v, .slice (some ad) ts.length c, .int .i64 nx] 28 (0, 0))) (hC : k70.C w (some ad) ts.length ts)
    (hi : idxL (tId table) ts 0 = (i : Int)) (hil : i < ts.length) (hk : idxL (xId elem) ts[i].f3 0 = (k : Int)) (hkl : k < ts[i].f3.length) :
    Calls Tryd.prog 107 #[.pointer (some ⟨X, 0, none⟩), .int .i64 kind, .int .i64 table, .int .i64 elem] w fun e w' => ∃ E a3, e = .returned (.tuple #[.pointer (some ⟨E, 0, none⟩), .bool true]) ∧ Below w.heap.size w w' ∧
      ElemOk E (ad.add (i * 5)) ⟨(Addr.add a3 (k * 5)).block, (Addr.add a3 (k * 5)).off + 4, none⟩ k true false w' ∧ w'.cell? ⟨(Addr.add a3 (k * 5)).block, (Addr.add a3 (k * 5)).off + 4, none⟩ = some (.int .i64 ts[i].f3[k].f4) ∧ ∃ cc, w.cell? ⟨(ad.add (i * 5)).block, (ad.add (i * 5)).off + 3, none⟩ = some (.slice (some a3) ts[i].f3.length cc) := by
  have hXl := blk_lt hX
  obtain ⟨W0, hW0⟩ : ∃ W0, W0 = (w.alloc (.cells #[.int .i64 table] 3)).alloc (.map #[] 0) := ⟨_, rfl⟩
  have hB0 : Below w.heap.size w W0 := by rw [hW0]; exact below_alloc (below_alloc (Below.refl _ _) _) _
  have hm0 : W0.heap[w.heap.size + 1]? = some (.map #[] 0) := by
    have := heap_alloc_new (w.alloc (.cells #[.int .i64 table] 3)) (.map #[] 0)
    rw [hW0]
    simpa using this
  have ht0 : W0.heap[w.heap.size]? = some (.cells #[.int .i64 table] 3 (0, 0)) := by rw [hW0]; exact blk_alloc (heap_alloc_new w _) _
  obtain ⟨W1, W2, W3, W4, W5, W6, i1, i2, i3, i4, i5, i6, hm6, hg6⟩ := finds_made W0 (w.heap.size + 1) hm0
  have hB6 : Below w.heap.size w W6 := hB0.grown hg6 hB0.size (fun k hk => by injection hk with hk; omega)
  have ht6 : W6.heap[w.heap.size]? = some (.cells #[.int .i64 table] 3 (0, 0)) := (hg6.block _ (blk_lt ht0) (fun e => by injection e with e; omega)).trans ht0
  have hlook := finds_look hm6 kind
  rw [hkd] at hlook
  have hx6 := blk_below hX hB6
  have x1 := blk_cell (j := 1) (v := .slice (some ad) ts.length c) hx6 rfl
  have HQ := Lib.hid (idx70 149 #[.pointer (some ⟨w.heap.size, 0, none⟩)] enters149 (fun x => x.f0 == table) (some ad) c ts W6 (Kd.C_below hC hB6) (pred149 table w.heap.size W6 (blk_lt ht6) (blk_cell ht6 rfl)))
  rw [idxL_same (fun x : S70 => x.f0 == table) (tId table) (fun x => by unfold tId; rfl), hi] at HQ
  have hmm := @run_makeMap Tryd.prog
  have hmf : ∀ (fn : Fn) (first cap : Array Value) (w : World), (Instr.makeFunc fn first cap).run Tryd.prog w = .ok (.func fn first cap) w := fun _ _ _ _ => rfl
  have hii : (i : Int) < (ts.length : Int) := by omega
  have hi0 : (0 : Int) ≤ (i : Int) := by omega
  have HC := Aside0.mk hC
  have HB6 := Aside0.mk hB6
  have HX6 := Aside0.mk hx6
  rw [hW0] at i1
  clear hC hX hi hB0 hm0 ht0 hm6 hg6 hB6 ht6 hx6 hkd
  clear hW0
  go_enter Tryd.func107, Tryd.ntmps107
  have HE := Lib.hid enters146
  go_wp2_with fail
  refine HQ.out.mono ?_
  rintro e w7 ⟨rfl, hb7⟩
  have hx7 := blk_below HX6.out hb7
  have HX7 := Aside0.mk hx7
  have HB7 := Aside0.mk (below_then HB6.out HB6.out.size hb7)
  have x1' := blk_cell (j := 1) (v := .slice (some ad) ts.length c) hx7 rfl
  clear hb7 hx7 x1 i1 i2 i3 i4 i5 i6 hlook HX6 HB6 HQ
  have heq := eql_f146
  go_wp2_with fail
  have hB8 := below_then HB7.out HB7.out.size (below_alloc (Below.refl _ w7) (.cells #[.pointer (some (ad.add (i * 5))), .pointer none, .int .i64 0, .bool false, .bool false] 148))
  obtain ⟨ad', A2, c2, A3, c3, eA, h0, -, -, h3, -, -, -, hd3, hinds⟩ := at_T70 HC.out (i : Int) (by omega) (by omega)
  rw [rd70 _ _ hil] at h0 h3 hd3 hinds
  simp only [Int.toNat_natCast] at h0 h3
  obtain rfl : ad = ad' := by injection eA
  obtain ⟨a3, A5, c5, eA3, -, -, -, -, e4, -, -⟩ := at_T98 hinds (k : Int) (by omega) (by omega)
  rw [rd98 _ _ hkl] at e4
  simp only [Int.toNat_natCast] at e4
  subst eA3
  have hlt := World.block_lt_of_cell? w _ h0
  have hpE : (ad.add (i * 5)).block ≠ w7.heap.size := by have := HB7.out.size; omega
  refine (indexOf_yes w7.heap.size (ad.add (i * 5)) (.pointer none) 0 false false ts[i].f3 a3 c3 elem k _ (heap_alloc_new w7 _) rfl (pw_cell_below hB8 h3) (Kd.C_below hinds hB8) hpE hk hkl).mono ?_
  rintro e w9 ⟨rfl, hb9, hel⟩
  have hB9 := HB7.out.trans (show Below w.heap.size w7 w9 from ((below_alloc (Below.refl _ w7) _).trans hb9).mono HB7.out.size)
  have HF := Aside0.mk (And.intro hB9 (And.intro hel (And.intro (pw_cell_below hB9 e4) h3)))
  clear hb9 hel hB9 hB8 h0 h3 e4 hinds eA heq x1' hmm hmf
  go_wp2
  go_ret2
  exact ⟨w7.heap.size, a3, rfl, HF.out.1, HF.out.2.1, HF.out.2.2.1, _, HF.out.2.2.2⟩
end Go.Proofs.YtjgomlcdmpcoaaaDoor.H










namespace Go.Proofs.YtjgomlcdmpcoaaaDoor.H
open Go.RowKit Go.Proofs.YtjgomlcdmpcoaaaDoorW.PrintWords Go.Proofs.YtjgomlcdmpcoaaaDoorW.PrintLast Go.Proofs.YtjgomlcdmpcoaaaDoorW.PrintMore
open Go.Proofs.YtjgomlcdmpcoaaaDoor.D Go.Proofs.YtjgomlcdmpcoaaaDoor
set_option linter.unusedVariables false
set_option linter.unusedSimpArgs false
structure Told where
  v : Int
  ts : List S70
  nx : Int
  table : Int
  elem : Int
  err : Int
def noTold (e : Int) : Told := ⟨0, [], 0, 0, 0, e⟩
def beginP (f : S70 → S45 → S70 × Int × Int) (v : Int) (ts : List S70) (nx : Int) (s : S45) : Told :=
  if schB v ts nx = false then noTold 3
  else if 1099511627775 ≤ v then noTold 4
  else if s.f0 < 6 ∨ 11 < s.f0 then noTold 1
  else if idxL (tName s.f1) ts 0 < 0 then noTold 5
  else if (f (rd_T70 ts (idxL (tName s.f1) ts 0)) s).2.2 ≠ 0 then noTold (f (rd_T70 ts (idxL (tName s.f1) ts 0)) s).2.2
  else ⟨v + 1, ts.set (idxL (tName s.f1) ts 0).toNat (f (rd_T70 ts (idxL (tName s.f1) ts 0)) s).1, nx, (f (rd_T70 ts (idxL (tName s.f1) ts 0)) s).1.f0, (f (rd_T70 ts (idxL (tName s.f1) ts 0)) s).2.1, 0⟩
structure Bxs (w W : World) (bx sx : Array Value) : Prop where
  below : Below w.heap.size w W
  b0 : W.heap[w.heap.size]? = some (.cells bx 28 (0, 0))
  b1 : W.heap[w.heap.size + 1]? = some (.cells sx 45 (0, 0))
  b2 : W.heap[w.heap.size + 1 + 1]? = some (.cells #[.int .i64 0, .slice none 0 0, .int .i64 0] 28 (0, 0))
section
variable {w W W1 : World} {bx sx : Array Value}
theorem Bxs.new (w : World) (bx sx : Array Value) : Bxs w (((w.alloc (.cells bx 28)).alloc (.cells sx 45)).alloc (.cells #[.int .i64 0, .slice none 0 0, .int .i64 0] 28)) bx sx := by
  have h1 := heap_alloc_new w (.cells bx 28)
  have h2 := heap_alloc_new (w.alloc (.cells bx 28)) (.cells sx 45)
  have h3 := heap_alloc_new ((w.alloc (.cells bx 28)).alloc (.cells sx 45)) (.cells #[.int .i64 0, .slice none 0 0, .int .i64 0] 28)
  rw [show (w.alloc (.cells bx 28)).heap.size = w.heap.size + 1 by simp] at h2
  rw [show ((w.alloc (.cells bx 28)).alloc (.cells sx 45)).heap.size = w.heap.size + 1 + 1 by simp] at h3
  exact ⟨below_alloc (below_alloc (below_alloc (Below.refl _ _) _) _) _, blk_alloc (blk_alloc h1 _) _, blk_alloc h2 _, h3⟩
theorem Bxs.step (h : Bxs w W bx sx) (hb : Below W.heap.size W W1) : Bxs w W1 bx sx := ⟨below_then h.below h.below.size hb, blk_below h.b0 hb, blk_below h.b1 hb, blk_below h.b2 hb⟩
theorem Bxs.tch (h : Bxs w W bx sx) (hb : Tch w.heap.size W W1) : Bxs w W1 bx sx := ⟨h.below.trans hb.below, hb.box h.b0, hb.box h.b1, hb.box h.b2⟩
theorem Bxs.out (h : Bxs w W bx sx) (a b c : Value) : Below w.heap.size w (((W.setCell ⟨w.heap.size + 1 + 1, 0, none⟩ a).setCell ⟨w.heap.size + 1 + 1, 1, none⟩ b).setCell ⟨w.heap.size + 1 + 1, 2, none⟩ c) :=
  have hl : w.heap.size ≤ w.heap.size + 1 + 1 := by omega
  ((h.below.setCell hl _).setCell hl _).setCell hl _
end
def Tells (w : World) (r : Told) (e : Ending) (w' : World) : Prop :=
  ∃ A c, e = .returned (.tuple #[.agg #[.int .i64 r.v, .slice A r.ts.length c, .int .i64 r.nx], .int .i64 r.table, .int .i64 r.elem, .int .i64 r.err]) ∧ k70.R 70 w' w.heap.size (fun _ => True) (.slice A r.ts.length c) r.ts ∧ Below w.heap.size w w'
theorem rtabn_calls (v : Int) (ts : List S70) (nx : Int) (n : ByteArray) (hn : ts.length < 1000) (A : Option Addr) (c : Nat) (w : World) (hc : ts.length ≤ c) (g2 : k70.C w A ts.length ts) :
    Calls Tryd.prog 55 #[.agg #[.int .i64 v, .slice A ts.length c, .int .i64 nx], .string n] w fun e w' => e = .returned (.int .i64 (idxL (tName n) ts 0)) ∧ Below w.heap.size w w' := by
  have h := table_run n v ts nx (by omega) ts.length 1001 0 (by omega) (by omega)
  rw [List.drop_zero] at h
  exact (falseworkref18_Table.calls 1001 v A c ts nx n _ w g2 hc h).mono fun e w' h => ⟨h.1, by first | exact h.2 | exact h.2.below⟩
theorem schB_small {v : Int} {ts : List S70} {nx : Int} (h : schB v ts nx = true) : Small ts := by
  refine ⟨by have := (schB_len h).2; omega, fun t ht => ?_⟩
  obtain ⟨h1, h2, h3, h4⟩ := tableB_lens (schB_tab h t ht)
  exact ⟨by omega, by omega, fun x hx => by have := h4 x hx; omega⟩
theorem S_set3 {W : World} {B g : Nat} {u a b c : Value} {l : List S70} {cs : Array Value} (hS : Kd.S k70 70 W B (fun _ => True) u l) (hx : W.heap[g]? = some (.cells cs 28 (0, 0))) :
    Kd.S k70 70 (((W.setCell ⟨g, 0, none⟩ a).setCell ⟨g, 1, none⟩ b).setCell ⟨g, 2, none⟩ c) B (fun _ => True) u l := by
  have h1 := blk_put hx 0 a rfl
  have h2 := blk_put h1 1 b rfl
  exact Kd.S_set (Kd.S_set (Kd.S_set hS hx (by decide) 0 a) h1 (by decide) 1 b) h2 (by decide) 2 c
theorem Bxs.far {w W : World} {bx sx : Array Value} (h : Bxs w W bx sx) {g j : Nat} (hg : w.heap.size + 1 + 1 < g) (u : Value) : Bxs w (W.setCell ⟨g, j, none⟩ u) bx sx :=
  ⟨h.below.setCell (p := ⟨g, j, none⟩) (show w.heap.size ≤ g by omega) _, blk_far h.b0 (p := ⟨g, j, none⟩) (show w.heap.size ≠ g by omega) _, blk_far h.b1 (p := ⟨g, j, none⟩) (show w.heap.size + 1 ≠ g by omega) _, blk_far h.b2 (p := ⟨g, j, none⟩) (show w.heap.size + 1 + 1 ≠ g by omega) _⟩
theorem tells_ok {w W : World} {R : Told} {g cap : Nat} {v nx table elem : Int} {ts : List S70} (hR : R = ⟨v, ts, nx, table, elem, 0⟩) (hS : Kd.S k70 70 W w.heap.size (fun _ => True) (.slice (some ⟨g, 0, none⟩) ts.length cap) ts) (hb : Below w.heap.size w W) :
    Tells w R (.returned (.tuple #[.agg #[.int .i64 v, .slice (some ⟨g, 0, none⟩) ts.length cap, .int .i64 nx], .int .i64 table, .int .i64 elem, .int .i64 0])) W := by
  subst hR
  exact ⟨_, _, rfl, Kd.S_R hS, hb⟩
theorem tells_no {w W : World} {R : Told} {n : Int} (hR : R = noTold n) (hb : Below w.heap.size w W) : Tells w R (.returned (.tuple #[.agg #[.int .i64 0, .slice none 0 0, .int .i64 0], .int .i64 0, .int .i64 0, .int .i64 n])) W := by
  subst hR
  exact ⟨none, 0, rfl, Kd.R_nil _ _ _ _ _, hb⟩
set_option maxRecDepth 100000 in
set_option maxHeartbeats 4000000 in
theorem begin_of (F : Nat) (f : S70 → S45 → S70 × Int × Int) (hU : Upd F f) (v : Int) (ts : List S70) (nx : Int) (s : S45) (hF : (s.f0 = 6 ∧ F = 62) ∨ (s.f0 = 8 ∧ F = 63) ∨ (s.f0 ≠ 6 ∧ s.f0 ≠ 8 ∧ F = 64)) (hn : ts.length < 1000) (hw : ∀ t ∈ ts, ∀ c ∈ t.f2, ValWf c.f5)
    (A : Option Addr) (c : Nat) (w : World) (hc : ts.length ≤ c) (g2 : k70.C w A ts.length ts) (cs : List Value) (hs : k45.K w s cs) (hok : StmtOk s) :
    Calls Tryd.prog 30 #[.agg #[.int .i64 v, .slice A ts.length c, .int .i64 nx], .agg cs.toArray] w (Tells w (beginP f v ts nx s)) := by
  obtain ⟨A3, c3, A4, c4, A5, c5, A6, c6, A9, c9, rfl, -⟩ := k45_open hs
  have HS := Aside0.mk hs
  have HC := Aside0.mk g2
  obtain ⟨bx, hbx⟩ : ∃ b : Array Value, b = #[.int .i64 v, .slice A ts.length c, .int .i64 nx] := ⟨_, rfl⟩
  obtain ⟨sx, hsx⟩ : ∃ b : Array Value, b = #[.int .i64 s.f0, .string s.f1, .string s.f2, .slice A3 s.f3.length c3, .slice A4 s.f4.length c4, .slice A5 s.f5.length c5, .slice A6 s.f6.length c6, .bool s.f7, .int .i64 s.f8, .slice A9 s.f9.length c9] := ⟨_, rfl⟩
  have HX := Aside0.mk (Bxs.new w bx sx)
  have HM := Lib.hid (fun W (hb : Below w.heap.size w W) => rmay_calls v ts nx hw A c W hc (Kd.C_below g2 hb))
  have HI := Lib.hid (show beginP f v ts nx s = _ by unfold beginP; exact rfl)
  have HU := Lib.hid hU
  obtain ⟨R, hR⟩ : ∃ R, beginP f v ts nx s = R := ⟨_, rfl⟩
  rw [hR]
  rw [hR] at HI
  rw [hbx, hsx] at HX
  clear hs g2 hR hw hU
  cases hsch : schB v ts nx with
  | false =>
    have HR := Lib.hid (show R = noTold 3 by rw [HI.out, if_pos hsch])
    rw [hsch] at HM
    clear hsch HI
    go_enter Tryd.func30, Tryd.ntmps30
    go_wp2_with fail
    refine (HM.out _ HX.out.below).mono ?_
    rintro e w1 ⟨rfl, hb1⟩
    have HX1 := Aside0.mk (HX.out.step hb1)
    have f0 := blk_frozen HX1.out.b2 0
    have f1 := blk_frozen HX1.out.b2 1
    have f2 := blk_frozen HX1.out.b2 2
    have c0 := blk_cell (j := 0) (v := .int .i64 0) HX1.out.b2 rfl
    have c1 := blk_cell (j := 1) (v := .slice none 0 0) HX1.out.b2 rfl
    have c2 := blk_cell (j := 2) (v := .int .i64 0) HX1.out.b2 rfl
    clear hb1
    go_wp2
    refine bodyPost_ret (v := .tuple #[.agg #[.int .i64 0, .slice none 0 0, .int .i64 0], .int .i64 0, .int .i64 0, .int .i64 3]) (by simp [results, Tryd.results30, go_sem, c0, c1, c2]) rfl (tells_no HR.out (HX1.out.out _ _ _))
  | true =>
    rw [hsch] at HM
    have HI2 := Lib.hid (HI.out.trans (if_neg (by rw [hsch]; simp)))
    have HB := Lib.hid hsch
    clear hsch HI
    go_enter Tryd.func30, Tryd.ntmps30
    go_wp2_with fail
    refine (HM.out _ HX.out.below).mono ?_
    rintro e w1 ⟨rfl, hb1⟩
    have HX1 := Aside0.mk (HX.out.step hb1)
    have x0 := blk_cell (j := 0) (v := .int .i64 v) HX1.out.b0 rfl
    clear hb1 HX HM
    by_cases hv : 1099511627775 ≤ v
    · have hd : decide (1099511627775 ≤ v) = true := decide_eq_true hv
      have HR := Lib.hid (show R = noTold 4 by rw [HI2.out, if_pos hv])
      have f0 := blk_frozen HX1.out.b2 0
      have f1 := blk_frozen HX1.out.b2 1
      have f2 := blk_frozen HX1.out.b2 2
      have c0 := blk_cell (j := 0) (v := .int .i64 0) HX1.out.b2 rfl
      have c1 := blk_cell (j := 1) (v := .slice none 0 0) HX1.out.b2 rfl
      have c2 := blk_cell (j := 2) (v := .int .i64 0) HX1.out.b2 rfl
      clear hv HI2
      go_wp2
      refine bodyPost_ret (v := .tuple #[.agg #[.int .i64 0, .slice none 0 0, .int .i64 0], .int .i64 0, .int .i64 0, .int .i64 4]) (by simp [results, Tryd.results30, go_sem, c0, c1, c2]) rfl (tells_no HR.out (HX1.out.out _ _ _))
    have hd : decide (1099511627775 ≤ v) = false := decide_eq_false hv
    have HI3 := Lib.hid (HI2.out.trans (if_neg hv))
    have s0 := blk_cell (j := 0) (v := .int .i64 s.f0) HX1.out.b1 rfl
    have s1 := blk_cell (j := 1) (v := .string s.f1) HX1.out.b1 rfl
    have x1 := blk_cell (j := 1) (v := .slice A ts.length c) HX1.out.b0 rfl
    have x2 := blk_cell (j := 2) (v := .int .i64 nx) HX1.out.b0 rfl
    have HV := Lib.hid hv
    clear HI2 hv
    by_cases hk6 : s.f0 < 6
    · have hd6 : decide (s.f0 < 6) = true := decide_eq_true hk6
      have HR := Lib.hid (show R = noTold 1 by rw [HI3.out, if_pos (.inl hk6)])
      have f0 := blk_frozen HX1.out.b2 0
      have f1 := blk_frozen HX1.out.b2 1
      have f2 := blk_frozen HX1.out.b2 2
      have c0 := blk_cell (j := 0) (v := .int .i64 0) HX1.out.b2 rfl
      have c1 := blk_cell (j := 1) (v := .slice none 0 0) HX1.out.b2 rfl
      have c2 := blk_cell (j := 2) (v := .int .i64 0) HX1.out.b2 rfl
      clear hk6 HI3 hF
      go_wp2
      refine bodyPost_ret (v := .tuple #[.agg #[.int .i64 0, .slice none 0 0, .int .i64 0], .int .i64 0, .int .i64 0, .int .i64 1]) (by simp [results, Tryd.results30, go_sem, c0, c1, c2]) rfl (tells_no HR.out (HX1.out.out _ _ _))
    have hd6 : decide (s.f0 < 6) = false := decide_eq_false hk6
    by_cases hk11 : 11 < s.f0
    · have hd11 : decide (11 < s.f0) = true := decide_eq_true hk11
      have HR := Lib.hid (show R = noTold 1 by rw [HI3.out, if_pos (.inr hk11)])
      have f0 := blk_frozen HX1.out.b2 0
      have f1 := blk_frozen HX1.out.b2 1
      have f2 := blk_frozen HX1.out.b2 2
      have c0 := blk_cell (j := 0) (v := .int .i64 0) HX1.out.b2 rfl
      have c1 := blk_cell (j := 1) (v := .slice none 0 0) HX1.out.b2 rfl
      have c2 := blk_cell (j := 2) (v := .int .i64 0) HX1.out.b2 rfl
      clear hk6 hk11 HI3 hF
      go_wp2
      refine bodyPost_ret (v := .tuple #[.agg #[.int .i64 0, .slice none 0 0, .int .i64 0], .int .i64 0, .int .i64 0, .int .i64 1]) (by simp [results, Tryd.results30, go_sem, c0, c1, c2]) rfl (tells_no HR.out (HX1.out.out _ _ _))
    have hd11 : decide (11 < s.f0) = false := decide_eq_false hk11
    have HI4 := Lib.hid (HI3.out.trans (if_neg (show ¬ (s.f0 < 6 ∨ 11 < s.f0) by omega)))
    have HF := Lib.hid hF
    clear HI3 hk6 hk11 hF
    have HT := Lib.hid (fun W (hb : Below w.heap.size w W) => rtabn_calls v ts nx s.f1 hn A c W hc (Kd.C_below HC.out hb))
    obtain ⟨ix, hix⟩ : ∃ ix, idxL (tName s.f1) ts 0 = ix := ⟨_, rfl⟩
    have hia := idxL_at (tName s.f1) ts
    rw [hix] at HT HI4 hia
    clear hix
    go_wp2_with fail
    refine (HT.out _ HX1.out.below).mono ?_
    rintro e w2 ⟨rfl, hb2⟩
    have HX2 := Aside0.mk (HX1.out.step hb2)
    clear hb2 HX1 s0 s1 x0 x1 x2 HT
    rcases hia with rfl | ⟨k, hk, rfl, -⟩
    · have HX1 := HX2
      have HR := Lib.hid (show R = noTold 5 by rw [HI4.out]; rfl)
      have f0 := blk_frozen HX1.out.b2 0
      have f1 := blk_frozen HX1.out.b2 1
      have f2 := blk_frozen HX1.out.b2 2
      have c0 := blk_cell (j := 0) (v := .int .i64 0) HX1.out.b2 rfl
      have c1 := blk_cell (j := 1) (v := .slice none 0 0) HX1.out.b2 rfl
      have c2 := blk_cell (j := 2) (v := .int .i64 0) HX1.out.b2 rfl
      clear HI4
      go_wp2
      refine bodyPost_ret (v := .tuple #[.agg #[.int .i64 0, .slice none 0 0, .int .i64 0], .int .i64 0, .int .i64 0, .int .i64 5]) (by simp [results, Tryd.results30, go_sem, c0, c1, c2]) rfl (tells_no HR.out (HX1.out.out _ _ _))
    have HI5 := Lib.hid (HI4.out.trans (if_neg (by omega)))
    have hk0 : (0 : Int) ≤ (k : Int) := by omega
    have hkl : (k : Int) < (ts.length : Int) := by omega
    have x0 := blk_cell (j := 0) (v := .int .i64 v) HX2.out.b0 rfl
    have x1 := blk_cell (j := 1) (v := .slice A ts.length c) HX2.out.b0 rfl
    have x2 := blk_cell (j := 2) (v := .int .i64 nx) HX2.out.b0 rfl
    clear HI4
    go_wp2_with fail
    refine (copy_calls v ts nx (schB_small HB.out) A c w2 hc (Kd.C_below HC.out HX2.out.below)).mono ?_
    rintro e w3 ⟨u, rfl, hS, hb3⟩
    have hS' := Kd.S_lower hS HX2.out.below.size
    obtain ⟨g, cap, rfl, -⟩ := Kd.S_form hS' (by omega)
    have HX3 := Aside0.mk (HX2.out.step hb3)
    have HS3 := Aside0.mk hS'
    have HY := Aside0.mk (heap_alloc_new w3 (.cells #[.int .i64 v, .slice (some ⟨g, 0, none⟩) ts.length cap, .int .i64 nx] 28))
    clear hS hS' hb3 x0 x1 x2 HX2
    have HX4 := Aside0.mk (HX3.out.step (below_alloc (Below.refl _ _) (.cells #[.int .i64 v, .slice (some ⟨g, 0, none⟩) ts.length cap, .int .i64 nx] 28)))
    have s0 := blk_cell (j := 0) (v := .int .i64 s.f0) HX4.out.b1 rfl
    have s1 := blk_cell (j := 1) (v := .string s.f1) HX4.out.b1 rfl
    have s2 := blk_cell (j := 2) (v := .string s.f2) HX4.out.b1 rfl
    have s3 := blk_cell (j := 3) (v := .slice A3 s.f3.length c3) HX4.out.b1 rfl
    have s4 := blk_cell (j := 4) (v := .slice A4 s.f4.length c4) HX4.out.b1 rfl
    have s5 := blk_cell (j := 5) (v := .slice A5 s.f5.length c5) HX4.out.b1 rfl
    have s6 := blk_cell (j := 6) (v := .slice A6 s.f6.length c6) HX4.out.b1 rfl
    have s7 := blk_cell (j := 7) (v := .bool s.f7) HX4.out.b1 rfl
    have s8 := blk_cell (j := 8) (v := .int .i64 s.f8) HX4.out.b1 rfl
    have s9 := blk_cell (j := 9) (v := .slice A9 s.f9.length c9) HX4.out.b1 rfl
    obtain ⟨oki, cv, iv, hL⟩ := lend HS3.out hk
    have HL := Aside0.mk (hL.step (below_alloc (Below.refl _ _) (.cells #[.int .i64 v, .slice (some ⟨g, 0, none⟩) ts.length cap, .int .i64 nx] 28)))
    have HTB := Lib.hid (schB_tab HB.out _ (List.getElem_mem hk))
    obtain ⟨t, ht⟩ : ∃ t, ts[k] = t := ⟨_, rfl⟩
    have HI6 := HI5
    rw [rd70 _ _ hk] at HI6
    rw [ht] at HL HTB HI6
    obtain ⟨t', id, er, hf⟩ : ∃ t' id er, f t s = (t', id, er) := ⟨_, _, _, rfl⟩
    have hUU := HU.out w _ g ts.length cap ts k oki t cv iv s _ HX4.out.below HL.out HTB.out HS.out hok
    rw [hf] at HI6 hUU
    have HUU := Lib.hid hUU
    obtain ⟨q6, q8, hq6, hq8, hFq⟩ : ∃ q6 q8 : Bool, (s.f0 == 6) = q6 ∧ (s.f0 == 8) = q8 ∧ ((q6 = true ∧ F = 62) ∨ (q6 = false ∧ q8 = true ∧ F = 63) ∨ (q6 = false ∧ q8 = false ∧ F = 64)) := by
      refine ⟨_, _, rfl, rfl, ?_⟩
      rcases HF.out with ⟨h, h'⟩ | ⟨h, h'⟩ | ⟨h, h', h''⟩
      · exact .inl ⟨by rw [h]; rfl, h'⟩
      · exact .inr (.inl ⟨by rw [h]; rfl, by rw [h]; rfl, h'⟩)
      · exact .inr (.inr ⟨by simpa using h, by simpa using h', h''⟩)
    have hv1 : v < 1099511627775 := by have := HV.out; omega
    have hv0 : 0 ≤ v := by have := HB.out; unfold schB at this; simp only [Bool.and_eq_true, decide_eq_true_eq] at this; exact this.1
    clear hL ht hf hUU HI5 HU hd hd6 hd11 HF
    rcases hFq with ⟨rfl, rfl⟩ | ⟨rfl, rfl, rfl⟩ | ⟨rfl, rfl, rfl⟩
    all_goals
      go_wp2_with fail
      refine HUU.out.mono ?_
      rintro e w5 ⟨rfl, hS5, hT5⟩
      have HX5 := Aside0.mk (HX4.out.tch hT5)
      have HY5 := Aside0.mk (hT5.box HY.out)
      have HS5 := Aside0.mk hS5
      have hltz : w3.heap.size < w5.heap.size := lt_of_block HY5.out
      clear s0 s1 s2 s3 s4 s5 s6 s7 s8 s9 hS5 hT5 HUU hq6 hq8
      by_cases her : er = 0
      · subst her
        have HR := Lib.hid (HI6.out.trans (if_neg (by simp)))
        have y0 := blk_cell (j := 0) (v := .int .i64 v) HY5.out rfl
        have g0 := blk_frozen HY5.out 0
        have hq3 : w.heap.size + 1 + 1 < w3.heap.size := lt_of_block HX3.out.b2
        have hX6 := HX5.out.far (j := 0) hq3 (.int .i64 (v + 1))
        have hY6 := blk_put HY5.out 0 (.int .i64 (v + 1)) rfl
        have hS6 := Kd.S_set HS5.out HY5.out (by decide) 0 (.int .i64 (v + 1))
        clear HI6
        go_wp2_with fail
        clear y0 g0
        generalize w5.setCell ⟨w3.heap.size, 0, none⟩ (.int .i64 (v + 1)) = w6 at hX6 hY6 hS6 ⊢
        have y0 := blk_cell (j := 0) (v := .int .i64 (v + 1)) hY6 rfl
        have y1 := blk_cell (j := 1) (v := .slice (some ⟨g, 0, none⟩) ts.length cap) hY6 rfl
        have y2 := blk_cell (j := 2) (v := .int .i64 nx) hY6 rfl
        obtain ⟨oki6, cv6, iv6, hL6⟩ := lend hS6 (by rw [List.length_set]; exact hk)
        rw [List.getElem_set_self] at hL6
        have t0 : w6.cell? ⟨g, k * 5, none⟩ = some (.int .i64 t'.f0) := hL6.cell 0 rfl
        have f0 := blk_frozen hX6.b2 0
        have f1 := blk_frozen hX6.b2 1
        have f2 := blk_frozen hX6.b2 2
        have c0 := blk_cell (j := 0) (v := .int .i64 0) hX6.b2 rfl
        have c1 := blk_cell (j := 1) (v := .slice none 0 0) hX6.b2 rfl
        have c2 := blk_cell (j := 2) (v := .int .i64 0) hX6.b2 rfl
        have HX6 := Aside0.mk hX6
        have HS6 := Aside0.mk hS6
        obtain ⟨gcs, hgb⟩ := hL6.blk
        have n1 : ¬ g = w.heap.size + 1 + 1 := blk_ne hgb hX6.b2 (by decide)
        have n2 : ¬ w3.heap.size = w.heap.size + 1 + 1 := by omega
        clear hX6 hY6 hS6 hL6 hgb
        go_region
        all_goals
          go_wp2
          refine bodyPost_ret (v := .tuple #[.agg #[.int .i64 (v + 1), .slice (some ⟨g, 0, none⟩) ts.length cap, .int .i64 nx], .int .i64 t'.f0, .int .i64 id, .int .i64 0]) (by simp [results, Tryd.results30, go_sem, c0, c1, c2]) rfl ?_
          have hfin := tells_ok (w := w) (R := R) (v := v + 1) (nx := nx) (table := t'.f0) (elem := id) (ts := ts.set k t') (cap := cap) (g := g) (by rw [HR.out]; simp) (Kd.S_drew (S_set3 (by rw [List.length_set]; exact HS6.out) HX6.out.b2)) (below_drew (HX6.out.out (.int .i64 (v + 1)) (.slice (some ⟨g, 0, none⟩) (ts.set k t').length cap) (.int .i64 nx)))
          rw [List.length_set] at hfin
          exact hfin
      · have hd : (er != 0) = true := by simpa using her
        have HX1 := HX5
        have HR := Lib.hid (show R = noTold er by rw [HI6.out]; exact if_pos her)
        have f0 := blk_frozen HX1.out.b2 0
        have f1 := blk_frozen HX1.out.b2 1
        have f2 := blk_frozen HX1.out.b2 2
        have c0 := blk_cell (j := 0) (v := .int .i64 0) HX1.out.b2 rfl
        have c1 := blk_cell (j := 1) (v := .slice none 0 0) HX1.out.b2 rfl
        have c2 := blk_cell (j := 2) (v := .int .i64 0) HX1.out.b2 rfl
        clear HI6 her
        go_wp2
        refine bodyPost_ret (v := .tuple #[.agg #[.int .i64 0, .slice none 0 0, .int .i64 0], .int .i64 0, .int .i64 0, .int .i64 er]) (by simp [results, Tryd.results30, go_sem, c0, c1, c2]) rfl (tells_no HR.out (HX1.out.out _ _ _))
end Go.Proofs.YtjgomlcdmpcoaaaDoor.H
