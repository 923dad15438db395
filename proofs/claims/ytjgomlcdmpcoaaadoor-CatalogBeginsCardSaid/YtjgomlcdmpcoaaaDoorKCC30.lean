/- Own texts of this session, packed by its program wip/pp/pack.py: lemmas and walks of functions. -/
import Derived.Test.YtjgomlcdmpcoaaaDoorKCC16
import Derived.Test.YtjgomlcdmpcoaaaDoorKCC29
namespace Go.Proofs.YtjgomlcdmpcoaaaDoor.H
open Go.RowKit Go.Proofs.YtjgomlcdmpcoaaaDoorW.PrintWords Go.Proofs.YtjgomlcdmpcoaaaDoorW.PrintLast Go.Proofs.YtjgomlcdmpcoaaaDoorW.PrintMore
open Go.Proofs.YtjgomlcdmpcoaaaDoor.D Go.Proofs.YtjgomlcdmpcoaaaDoor
set_option linter.unusedVariables false
set_option linter.unusedSimpArgs false
theorem eql_f147 (w : World) : (binOp BinOp.eql 176 (Value.func (Fn.func 147) #[] #[]) Value.nilFunc).run Tryd.prog w = .ok (.bool false) w := by kernel_rfl
theorem eql_f148 (w : World) : (binOp BinOp.eql 176 (Value.func (Fn.func 148) #[] #[]) Value.nilFunc).run Tryd.prog w = .ok (.bool false) w := by kernel_rfl
theorem eql_nilF (w : World) : (binOp BinOp.eql 176 Value.nilFunc Value.nilFunc).run Tryd.prog w = .ok (.bool true) w := by kernel_rfl
theorem enters147 (args : Array Value) (w : World) : (callFunc 147 args).run Tryd.prog w = .ok (.enter 147 args) w := enters Tryd.func147 (by kernel_rfl) rfl args w
theorem enters148 (args : Array Value) (w : World) : (callFunc 148 args).run Tryd.prog w = .ok (.enter 148 args) w := enters Tryd.func148 (by kernel_rfl) rfl args w
set_option maxRecDepth 100000 in
set_option maxHeartbeats 4000000 in
theorem ccol_no (E : Nat) (pa : Addr) (sp : Value) (at0 : Int) (ix0 rl0 : Bool) (xs : List S75) (A : Option Addr) (c : Nat) (id : Int) (w : World) (hE : w.heap[E]? = some (.cells #[.pointer (some pa), sp, .int .i64 at0, .bool ix0, .bool rl0] 148 (0, 0)))
    (hp : w.cell? ⟨pa.block, pa.off + 2, none⟩ = some (.slice A xs.length c)) (hC : k75.C w A xs.length xs) (hpE : pa.block ≠ E) (hk : idxL (cId id) xs 0 = -1) :
    Calls Tryd.prog 147 #[.pointer (some ⟨E, 0, none⟩), .int .i64 id] w fun e w' => e = .returned (.bool false) ∧ Below E w w' := by
  have H := Lib.hid (colOf_no E pa sp at0 ix0 rl0 xs A c id false w hE hp hC hpE hk)
  clear hE hp hC hpE hk
  go_enter Tryd.func147, Tryd.ntmps147
  go_wp2_with fail
  refine H.out.mono ?_
  rintro e w1 ⟨rfl, hb1⟩
  go_wp2
  go_ret
  exact ⟨rfl, hb1⟩
set_option maxRecDepth 100000 in
set_option maxHeartbeats 4000000 in
theorem ccol_yes (E : Nat) (pa : Addr) (sp : Value) (at0 : Int) (ix0 rl0 : Bool) (xs : List S75) (ad : Addr) (c : Nat) (id : Int) (k : Nat) (w : World) (hE : w.heap[E]? = some (.cells #[.pointer (some pa), sp, .int .i64 at0, .bool ix0, .bool rl0] 148 (0, 0))) (hsp : sp = .pointer none)
    (hp : w.cell? ⟨pa.block, pa.off + 2, none⟩ = some (.slice (some ad) xs.length c)) (hC : k75.C w (some ad) xs.length xs) (hpE : pa.block ≠ E) (hk : idxL (cId id) xs 0 = (k : Int)) (hkl : k < xs.length) :
    Calls Tryd.prog 147 #[.pointer (some ⟨E, 0, none⟩), .int .i64 id] w fun e w' => e = .returned (.bool true) ∧ Below E w w' ∧ ElemOk E pa ⟨(ad.add (k * 9)).block, (ad.add (k * 9)).off + 3, none⟩ k ix0 false w' := by
  have H := Lib.hid (colOf_yes E pa sp at0 ix0 rl0 xs ad c id false k w hE hsp hp hC hpE hk hkl)
  clear hE hp hC hpE hk hsp
  go_enter Tryd.func147, Tryd.ntmps147
  go_wp2_with fail
  refine H.out.mono ?_
  rintro e w1 ⟨rfl, hb1, he1⟩
  go_wp2
  go_ret
  exact ⟨rfl, hb1, he1⟩
set_option maxRecDepth 100000 in
set_option maxHeartbeats 4000000 in
theorem cnul_no (E : Nat) (pa : Addr) (sp : Value) (at0 : Int) (ix0 rl0 : Bool) (xs : List S75) (A : Option Addr) (c : Nat) (id : Int) (w : World) (hE : w.heap[E]? = some (.cells #[.pointer (some pa), sp, .int .i64 at0, .bool ix0, .bool rl0] 148 (0, 0)))
    (hp : w.cell? ⟨pa.block, pa.off + 2, none⟩ = some (.slice A xs.length c)) (hC : k75.C w A xs.length xs) (hpE : pa.block ≠ E) (hk : idxL (cId id) xs 0 = -1) :
    Calls Tryd.prog 148 #[.pointer (some ⟨E, 0, none⟩), .int .i64 id] w fun e w' => e = .returned (.bool false) ∧ Below E w w' := by
  have H := Lib.hid (colOf_no E pa sp at0 ix0 rl0 xs A c id true w hE hp hC hpE hk)
  clear hE hp hC hpE hk
  go_enter Tryd.func148, Tryd.ntmps148
  go_wp2_with fail
  refine H.out.mono ?_
  rintro e w1 ⟨rfl, hb1⟩
  go_wp2
  go_ret
  exact ⟨rfl, hb1⟩
set_option maxRecDepth 100000 in
set_option maxHeartbeats 4000000 in
theorem cnul_yes (E : Nat) (pa : Addr) (sp : Value) (at0 : Int) (ix0 rl0 : Bool) (xs : List S75) (ad : Addr) (c : Nat) (id : Int) (k : Nat) (w : World) (hE : w.heap[E]? = some (.cells #[.pointer (some pa), sp, .int .i64 at0, .bool ix0, .bool rl0] 148 (0, 0))) (hsp : sp = .pointer none)
    (hp : w.cell? ⟨pa.block, pa.off + 2, none⟩ = some (.slice (some ad) xs.length c)) (hC : k75.C w (some ad) xs.length xs) (hpE : pa.block ≠ E) (hk : idxL (cId id) xs 0 = (k : Int)) (hkl : k < xs.length) :
    Calls Tryd.prog 148 #[.pointer (some ⟨E, 0, none⟩), .int .i64 id] w fun e w' => e = .returned (.bool true) ∧ Below E w w' ∧ ElemOk E pa ⟨(ad.add (k * 9)).block, (ad.add (k * 9)).off + 4, none⟩ k ix0 true w' := by
  have H := Lib.hid (colOf_yes E pa sp at0 ix0 rl0 xs ad c id true k w hE hsp hp hC hpE hk hkl)
  clear hE hp hC hpE hk hsp
  go_enter Tryd.func148, Tryd.ntmps148
  go_wp2_with fail
  refine H.out.mono ?_
  rintro e w1 ⟨rfl, hb1, he1⟩
  go_wp2
  go_ret
  exact ⟨rfl, hb1, he1⟩
set_option maxRecDepth 100000 in
set_option maxHeartbeats 4000000 in
theorem find_ccol_yes (X : Nat) (v nx kind table elem : Int) (ts : List S70) (ad : Addr) (c i k : Nat) (w : World) (hkd : finder kind = .func (.func 147) #[] #[]) (hX : w.heap[X]? = some (.cells #[.int .i64 v, .slice (some ad) ts.length c, .int .i64 nx] 28 (0, 0))) (hC : k70.C w (some ad) ts.length ts)
    (hi : idxL (tId table) ts 0 = (i : Int)) (hil : i < ts.length) (hk : idxL (cId elem) ts[i].f2 0 = (k : Int)) (hkl : k < ts[i].f2.length) :
    Calls Tryd.prog 107 #[.pointer (some ⟨X, 0, none⟩), .int .i64 kind, .int .i64 table, .int .i64 elem] w fun e w' => ∃ E a3, e = .returned (.tuple #[.pointer (some ⟨E, 0, none⟩), .bool true]) ∧ Below w.heap.size w w' ∧
      ElemOk E (ad.add (i * 5)) ⟨(Addr.add a3 (k * 9)).block, (Addr.add a3 (k * 9)).off + 3, none⟩ k false false w' ∧ w'.cell? ⟨(Addr.add a3 (k * 9)).block, (Addr.add a3 (k * 9)).off + 3, none⟩ = some (.int .i64 ts[i].f2[k].f3) ∧ ∃ cc, w.cell? ⟨(ad.add (i * 5)).block, (ad.add (i * 5)).off + 2, none⟩ = some (.slice (some a3) ts[i].f2.length cc) := by
  have hXl := blk_lt hX
  obtain ⟨W0, hW0⟩ : ∃ W0, W0 = (w.alloc (.cells #[.int .i64 table] 3)).alloc (.map #[] 0) := ⟨_, rfl⟩
  have hB0 : Below w.heap.size w W0 := by rw [hW0]; exact below_alloc (below_alloc (Below.refl _ _) _) _
  have hm0 : W0.heap[w.heap.size + 1]? = some (.map #[] 0) := by
    have := heap_alloc_new (w.alloc (.cells #[.int .i64 table] 3)) (.map #[] 0)
    rw [hW0]
    simpa using this
  have ht0 : W0.heap[w.heap.size]? = some (.cells #[.int .i64 table] 3 (0, 0)) := by rw [hW0]; exact blk_alloc (heap_alloc_new w _) _
  obtain ⟨W1, W2, W3, W4, W5, W6, i1, i2, i3, i4, i5, i6, hm6, hg6⟩ := finds_made W0 (w.heap.size + 1) hm0
  have hB6 : Below w.heap.size w W6 := hB0.grown hg6 hB0.size (fun k hk => by injection hk with hk; omega)
  have ht6 : W6.heap[w.heap.size]? = some (.cells #[.int .i64 table] 3 (0, 0)) := (hg6.block _ (blk_lt ht0) (fun e => by injection e with e; omega)).trans ht0
  have hlook := finds_look hm6 kind
  rw [hkd] at hlook
  have hx6 := blk_below hX hB6
  have x1 := blk_cell (j := 1) (v := .slice (some ad) ts.length c) hx6 rfl
  have HQ := Lib.hid (idx70 149 #[.pointer (some ⟨w.heap.size, 0, none⟩)] enters149 (fun x => x.f0 == table) (some ad) c ts W6 (Kd.C_below hC hB6) (pred149 table w.heap.size W6 (blk_lt ht6) (blk_cell ht6 rfl)))
  rw [idxL_same (fun x : S70 => x.f0 == table) (tId table) (fun x => by unfold tId; rfl), hi] at HQ
  have hmm := @run_makeMap Tryd.prog
  have hmf : ∀ (fn : Fn) (first cap : Array Value) (w : World), (Instr.makeFunc fn first cap).run Tryd.prog w = .ok (.func fn first cap) w := fun _ _ _ _ => rfl
  have hii : (i : Int) < (ts.length : Int) := by omega
  have hi0 : (0 : Int) ≤ (i : Int) := by omega
  have HC := Aside0.mk hC
  have HB6 := Aside0.mk hB6
  have HX6 := Aside0.mk hx6
  rw [hW0] at i1
  clear hC hX hi hB0 hm0 ht0 hm6 hg6 hB6 ht6 hx6 hkd
  clear hW0
  go_enter Tryd.func107, Tryd.ntmps107
  have HE := Lib.hid enters147
  go_wp2_with fail
  refine HQ.out.mono ?_
  rintro e w7 ⟨rfl, hb7⟩
  have hx7 := blk_below HX6.out hb7
  have HX7 := Aside0.mk hx7
  have HB7 := Aside0.mk (below_then HB6.out HB6.out.size hb7)
  have x1' := blk_cell (j := 1) (v := .slice (some ad) ts.length c) hx7 rfl
  clear hb7 hx7 x1 i1 i2 i3 i4 i5 i6 hlook HX6 HB6 HQ
  have heq := eql_f147
  go_wp2_with fail
  have hB8 := below_then HB7.out HB7.out.size (below_alloc (Below.refl _ w7) (.cells #[.pointer (some (ad.add (i * 5))), .pointer none, .int .i64 0, .bool false, .bool false] 148))
  obtain ⟨ad', A3, c3, A2, c2, eA, h0, -, h3, -, -, hd3, hinds, -, -⟩ := at_T70 HC.out (i : Int) (by omega) (by omega)
  rw [rd70 _ _ hil] at h0 h3 hd3 hinds
  simp only [Int.toNat_natCast] at h0 h3
  obtain rfl : ad = ad' := by injection eA
  obtain ⟨a3, eA3, -, -, -, q3, q4, -⟩ := at_T75 hinds (k : Int) (by omega) (by omega)
  have e4 := q3
  rw [rd75 _ _ hkl] at e4
  simp only [Int.toNat_natCast] at e4
  subst eA3
  have hlt := World.block_lt_of_cell? w _ h0
  have hpE : (ad.add (i * 5)).block ≠ w7.heap.size := by have := HB7.out.size; omega
  refine (ccol_yes w7.heap.size (ad.add (i * 5)) (.pointer none) 0 false false ts[i].f2 a3 c3 elem k _ (heap_alloc_new w7 _) rfl (pw_cell_below hB8 h3) (Kd.C_below hinds hB8) hpE hk hkl).mono ?_
  rintro e w9 ⟨rfl, hb9, hel⟩
  have hB9 := HB7.out.trans (show Below w.heap.size w7 w9 from ((below_alloc (Below.refl _ w7) _).trans hb9).mono HB7.out.size)
  have HF := Aside0.mk (And.intro hB9 (And.intro hel (And.intro (pw_cell_below hB9 e4) h3)))
  clear hb9 hel hB9 hB8 h0 h3 e4 hinds eA heq x1' hmm hmf
  go_wp2
  go_ret2
  exact ⟨w7.heap.size, a3, rfl, HF.out.1, HF.out.2.1, HF.out.2.2.1, _, HF.out.2.2.2⟩
set_option maxRecDepth 100000 in
set_option maxHeartbeats 4000000 in
theorem find_cnul_yes (X : Nat) (v nx kind table elem : Int) (ts : List S70) (ad : Addr) (c i k : Nat) (w : World) (hkd : finder kind = .func (.func 148) #[] #[]) (hX : w.heap[X]? = some (.cells #[.int .i64 v, .slice (some ad) ts.length c, .int .i64 nx] 28 (0, 0))) (hC : k70.C w (some ad) ts.length ts)
    (hi : idxL (tId table) ts 0 = (i : Int)) (hil : i < ts.length) (hk : idxL (cId elem) ts[i].f2 0 = (k : Int)) (hkl : k < ts[i].f2.length) :
    Calls Tryd.prog 107 #[.pointer (some ⟨X, 0, none⟩), .int .i64 kind, .int .i64 table, .int .i64 elem] w fun e w' => ∃ E a3, e = .returned (.tuple #[.pointer (some ⟨E, 0, none⟩), .bool true]) ∧ Below w.heap.size w w' ∧
      ElemOk E (ad.add (i * 5)) ⟨(Addr.add a3 (k * 9)).block, (Addr.add a3 (k * 9)).off + 4, none⟩ k false true w' ∧ w'.cell? ⟨(Addr.add a3 (k * 9)).block, (Addr.add a3 (k * 9)).off + 4, none⟩ = some (.int .i64 ts[i].f2[k].f4) ∧ ∃ cc, w.cell? ⟨(ad.add (i * 5)).block, (ad.add (i * 5)).off + 2, none⟩ = some (.slice (some a3) ts[i].f2.length cc) := by
  have hXl := blk_lt hX
  obtain ⟨W0, hW0⟩ : ∃ W0, W0 = (w.alloc (.cells #[.int .i64 table] 3)).alloc (.map #[] 0) := ⟨_, rfl⟩
  have hB0 : Below w.heap.size w W0 := by rw [hW0]; exact below_alloc (below_alloc (Below.refl _ _) _) _
  have hm0 : W0.heap[w.heap.size + 1]? = some (.map #[] 0) := by
    have := heap_alloc_new (w.alloc (.cells #[.int .i64 table] 3)) (.map #[] 0)
    rw [hW0]
    simpa using this
  have ht0 : W0.heap[w.heap.size]? = some (.cells #[.int .i64 table] 3 (0, 0)) := by rw [hW0]; exact blk_alloc (heap_alloc_new w _) _
  obtain ⟨W1, W2, W3, W4, W5, W6, i1, i2, i3, i4, i5, i6, hm6, hg6⟩ := finds_made W0 (w.heap.size + 1) hm0
  have hB6 : Below w.heap.size w W6 := hB0.grown hg6 hB0.size (fun k hk => by injection hk with hk; omega)
  have ht6 : W6.heap[w.heap.size]? = some (.cells #[.int .i64 table] 3 (0, 0)) := (hg6.block _ (blk_lt ht0) (fun e => by injection e with e; omega)).trans ht0
  have hlook := finds_look hm6 kind
  rw [hkd] at hlook
  have hx6 := blk_below hX hB6
  have x1 := blk_cell (j := 1) (v := .slice (some ad) ts.length c) hx6 rfl
  have HQ := Lib.hid (idx70 149 #[.pointer (some ⟨w.heap.size, 0, none⟩)] enters149 (fun x => x.f0 == table) (some ad) c ts W6 (Kd.C_below hC hB6) (pred149 table w.heap.size W6 (blk_lt ht6) (blk_cell ht6 rfl)))
  rw [idxL_same (fun x : S70 => x.f0 == table) (tId table) (fun x => by unfold tId; rfl), hi] at HQ
  have hmm := @run_makeMap Tryd.prog
  have hmf : ∀ (fn : Fn) (first cap : Array Value) (w : World), (Instr.makeFunc fn first cap).run Tryd.prog w = .ok (.func fn first cap) w := fun _ _ _ _ => rfl
  have hii : (i : Int) < (ts.length : Int) := by omega
  have hi0 : (0 : Int) ≤ (i : Int) := by omega
  have HC := Aside0.mk hC
  have HB6 := Aside0.mk hB6
  have HX6 := Aside0.mk hx6
  rw [hW0] at i1
  clear hC hX hi hB0 hm0 ht0 hm6 hg6 hB6 ht6 hx6 hkd
  clear hW0
  go_enter Tryd.func107, Tryd.ntmps107
  have HE := Lib.hid enters148
  go_wp2_with fail
  refine HQ.out.mono ?_
  rintro e w7 ⟨rfl, hb7⟩
  have hx7 := blk_below HX6.out hb7
  have HX7 := Aside0.mk hx7
  have HB7 := Aside0.mk (below_then HB6.out HB6.out.size hb7)
  have x1' := blk_cell (j := 1) (v := .slice (some ad) ts.length c) hx7 rfl
  clear hb7 hx7 x1 i1 i2 i3 i4 i5 i6 hlook HX6 HB6 HQ
  have heq := eql_f148
  go_wp2_with fail
  have hB8 := below_then HB7.out HB7.out.size (below_alloc (Below.refl _ w7) (.cells #[.pointer (some (ad.add (i * 5))), .pointer none, .int .i64 0, .bool false, .bool false] 148))
  obtain ⟨ad', A3, c3, A2, c2, eA, h0, -, h3, -, -, hd3, hinds, -, -⟩ := at_T70 HC.out (i : Int) (by omega) (by omega)
  rw [rd70 _ _ hil] at h0 h3 hd3 hinds
  simp only [Int.toNat_natCast] at h0 h3
  obtain rfl : ad = ad' := by injection eA
  obtain ⟨a3, eA3, -, -, -, q3, q4, -⟩ := at_T75 hinds (k : Int) (by omega) (by omega)
  have e4 := q4
  rw [rd75 _ _ hkl] at e4
  simp only [Int.toNat_natCast] at e4
  subst eA3
  have hlt := World.block_lt_of_cell? w _ h0
  have hpE : (ad.add (i * 5)).block ≠ w7.heap.size := by have := HB7.out.size; omega
  refine (cnul_yes w7.heap.size (ad.add (i * 5)) (.pointer none) 0 false false ts[i].f2 a3 c3 elem k _ (heap_alloc_new w7 _) rfl (pw_cell_below hB8 h3) (Kd.C_below hinds hB8) hpE hk hkl).mono ?_
  rintro e w9 ⟨rfl, hb9, hel⟩
  have hB9 := HB7.out.trans (show Below w.heap.size w7 w9 from ((below_alloc (Below.refl _ w7) _).trans hb9).mono HB7.out.size)
  have HF := Aside0.mk (And.intro hB9 (And.intro hel (And.intro (pw_cell_below hB9 e4) h3)))
  clear hb9 hel hB9 hB8 h0 h3 e4 hinds eA heq x1' hmm hmf
  go_wp2
  go_ret2
  exact ⟨w7.heap.size, a3, rfl, HF.out.1, HF.out.2.1, HF.out.2.2.1, _, HF.out.2.2.2⟩
set_option maxRecDepth 100000 in
set_option maxHeartbeats 4000000 in
theorem find_indexOf_no (X : Nat) (v nx kind table elem : Int) (ts : List S70) (ad : Addr) (c i : Nat) (w : World) (hkd : finder kind = .func (.func 146) #[] #[]) (hX : w.heap[X]? = some (.cells #[.int .i64 v, .slice (some ad) ts.length c, .int .i64 nx] 28 (0, 0))) (hC : k70.C w (some ad) ts.length ts)
    (hi : idxL (tId table) ts 0 = (i : Int)) (hil : i < ts.length) (hk : idxL (xId elem) ts[i].f3 0 = -1) :
    Calls Tryd.prog 107 #[.pointer (some ⟨X, 0, none⟩), .int .i64 kind, .int .i64 table, .int .i64 elem] w fun e w' => (∃ p, e = .returned (.tuple #[.pointer p, .bool false])) ∧ Below w.heap.size w w' := by
  have hXl := blk_lt hX
  obtain ⟨W0, hW0⟩ : ∃ W0, W0 = (w.alloc (.cells #[.int .i64 table] 3)).alloc (.map #[] 0) := ⟨_, rfl⟩
  have hB0 : Below w.heap.size w W0 := by rw [hW0]; exact below_alloc (below_alloc (Below.refl _ _) _) _
  have hm0 : W0.heap[w.heap.size + 1]? = some (.map #[] 0) := by
    have := heap_alloc_new (w.alloc (.cells #[.int .i64 table] 3)) (.map #[] 0)
    rw [hW0]
    simpa using this
  have ht0 : W0.heap[w.heap.size]? = some (.cells #[.int .i64 table] 3 (0, 0)) := by rw [hW0]; exact blk_alloc (heap_alloc_new w _) _
  obtain ⟨W1, W2, W3, W4, W5, W6, i1, i2, i3, i4, i5, i6, hm6, hg6⟩ := finds_made W0 (w.heap.size + 1) hm0
  have hB6 : Below w.heap.size w W6 := hB0.grown hg6 hB0.size (fun k hk => by injection hk with hk; omega)
  have ht6 : W6.heap[w.heap.size]? = some (.cells #[.int .i64 table] 3 (0, 0)) := (hg6.block _ (blk_lt ht0) (fun e => by injection e with e; omega)).trans ht0
  have hlook := finds_look hm6 kind
  rw [hkd] at hlook
  have hx6 := blk_below hX hB6
  have x1 := blk_cell (j := 1) (v := .slice (some ad) ts.length c) hx6 rfl
  have HQ := Lib.hid (idx70 149 #[.pointer (some ⟨w.heap.size, 0, none⟩)] enters149 (fun x => x.f0 == table) (some ad) c ts W6 (Kd.C_below hC hB6) (pred149 table w.heap.size W6 (blk_lt ht6) (blk_cell ht6 rfl)))
  rw [idxL_same (fun x : S70 => x.f0 == table) (tId table) (fun x => by unfold tId; rfl), hi] at HQ
  have hmm := @run_makeMap Tryd.prog
  have hmf : ∀ (fn : Fn) (first cap : Array Value) (w : World), (Instr.makeFunc fn first cap).run Tryd.prog w = .ok (.func fn first cap) w := fun _ _ _ _ => rfl
  have hii : (i : Int) < (ts.length : Int) := by omega
  have hi0 : (0 : Int) ≤ (i : Int) := by omega
  have HC := Aside0.mk hC
  have HB6 := Aside0.mk hB6
  have HX6 := Aside0.mk hx6
  rw [hW0] at i1
  clear hC hX hi hB0 hm0 ht0 hm6 hg6 hB6 ht6 hx6 hkd
  clear hW0
  go_enter Tryd.func107, Tryd.ntmps107
  have HE := Lib.hid enters146
  go_wp2_with fail
  refine HQ.out.mono ?_
  rintro e w7 ⟨rfl, hb7⟩
  have hx7 := blk_below HX6.out hb7
  have HX7 := Aside0.mk hx7
  have HB7 := Aside0.mk (below_then HB6.out HB6.out.size hb7)
  have x1' := blk_cell (j := 1) (v := .slice (some ad) ts.length c) hx7 rfl
  clear hb7 hx7 x1 i1 i2 i3 i4 i5 i6 hlook HX6 HB6 HQ
  have heq := eql_f146
  go_wp2_with fail
  have hB8 := below_then HB7.out HB7.out.size (below_alloc (Below.refl _ w7) (.cells #[.pointer (some (ad.add (i * 5))), .pointer none, .int .i64 0, .bool false, .bool false] 148))
  obtain ⟨ad', A2, c2, A3, c3, eA, h0, -, -, h3, -, -, -, hd3, hinds⟩ := at_T70 HC.out (i : Int) (by omega) (by omega)
  rw [rd70 _ _ hil] at h0 h3 hd3 hinds
  simp only [Int.toNat_natCast] at h0 h3
  obtain rfl : ad = ad' := by injection eA
  have hlt := World.block_lt_of_cell? w _ h0
  have hpE : (ad.add (i * 5)).block ≠ w7.heap.size := by have := HB7.out.size; omega
  refine (indexOf_no w7.heap.size (ad.add (i * 5)) (.pointer none) 0 false false ts[i].f3 A3 c3 elem _ (heap_alloc_new w7 _) (pw_cell_below hB8 h3) (Kd.C_below hinds hB8) hpE hk).mono ?_
  rintro e w9 ⟨rfl, hb9⟩
  have hB9 := HB7.out.trans (show Below w.heap.size w7 w9 from ((below_alloc (Below.refl _ w7) _).trans hb9).mono HB7.out.size)
  have HF := Aside0.mk hB9
  clear hb9 hB9 hB8 h0 h3 hinds eA heq x1' hmm hmf
  go_wp2
  go_ret2
  exact ⟨⟨_, rfl⟩, HF.out⟩
set_option maxRecDepth 100000 in
set_option maxHeartbeats 4000000 in
theorem find_ccol_no (X : Nat) (v nx kind table elem : Int) (ts : List S70) (ad : Addr) (c i : Nat) (w : World) (hkd : finder kind = .func (.func 147) #[] #[]) (hX : w.heap[X]? = some (.cells #[.int .i64 v, .slice (some ad) ts.length c, .int .i64 nx] 28 (0, 0))) (hC : k70.C w (some ad) ts.length ts)
    (hi : idxL (tId table) ts 0 = (i : Int)) (hil : i < ts.length) (hk : idxL (cId elem) ts[i].f2 0 = -1) :
    Calls Tryd.prog 107 #[.pointer (some ⟨X, 0, none⟩), .int .i64 kind, .int .i64 table, .int .i64 elem] w fun e w' => (∃ p, e = .returned (.tuple #[.pointer p, .bool false])) ∧ Below w.heap.size w w' := by
  have hXl := blk_lt hX
  obtain ⟨W0, hW0⟩ : ∃ W0, W0 = (w.alloc (.cells #[.int .i64 table] 3)).alloc (.map #[] 0) := ⟨_, rfl⟩
  have hB0 : Below w.heap.size w W0 := by rw [hW0]; exact below_alloc (below_alloc (Below.refl _ _) _) _
  have hm0 : W0.heap[w.heap.size + 1]? = some (.map #[] 0) := by
    have := heap_alloc_new (w.alloc (.cells #[.int .i64 table] 3)) (.map #[] 0)
    rw [hW0]
    simpa using this
  have ht0 : W0.heap[w.heap.size]? = some (.cells #[.int .i64 table] 3 (0, 0)) := by rw [hW0]; exact blk_alloc (heap_alloc_new w _) _
  obtain ⟨W1, W2, W3, W4, W5, W6, i1, i2, i3, i4, i5, i6, hm6, hg6⟩ := finds_made W0 (w.heap.size + 1) hm0
  have hB6 : Below w.heap.size w W6 := hB0.grown hg6 hB0.size (fun k hk => by injection hk with hk; omega)
  have ht6 : W6.heap[w.heap.size]? = some (.cells #[.int .i64 table] 3 (0, 0)) := (hg6.block _ (blk_lt ht0) (fun e => by injection e with e; omega)).trans ht0
  have hlook := finds_look hm6 kind
  rw [hkd] at hlook
  have hx6 := blk_below hX hB6
  have x1 := blk_cell (j := 1) (v := .slice (some ad) ts.length c) hx6 rfl
  have HQ := Lib.hid (idx70 149 #[.pointer (some ⟨w.heap.size, 0, none⟩)] enters149 (fun x => x.f0 == table) (some ad) c ts W6 (Kd.C_below hC hB6) (pred149 table w.heap.size W6 (blk_lt ht6) (blk_cell ht6 rfl)))
  rw [idxL_same (fun x : S70 => x.f0 == table) (tId table) (fun x => by unfold tId; rfl), hi] at HQ
  have hmm := @run_makeMap Tryd.prog
  have hmf : ∀ (fn : Fn) (first cap : Array Value) (w : World), (Instr.makeFunc fn first cap).run Tryd.prog w = .ok (.func fn first cap) w := fun _ _ _ _ => rfl
  have hii : (i : Int) < (ts.length : Int) := by omega
  have hi0 : (0 : Int) ≤ (i : Int) := by omega
  have HC := Aside0.mk hC
  have HB6 := Aside0.mk hB6
  have HX6 := Aside0.mk hx6
  rw [hW0] at i1
  clear hC hX hi hB0 hm0 ht0 hm6 hg6 hB6 ht6 hx6 hkd
  clear hW0
  go_enter Tryd.func107, Tryd.ntmps107
  have HE := Lib.hid enters147
  go_wp2_with fail
  refine HQ.out.mono ?_
  rintro e w7 ⟨rfl, hb7⟩
  have hx7 := blk_below HX6.out hb7
  have HX7 := Aside0.mk hx7
  have HB7 := Aside0.mk (below_then HB6.out HB6.out.size hb7)
  have x1' := blk_cell (j := 1) (v := .slice (some ad) ts.length c) hx7 rfl
  clear hb7 hx7 x1 i1 i2 i3 i4 i5 i6 hlook HX6 HB6 HQ
  have heq := eql_f147
  go_wp2_with fail
  have hB8 := below_then HB7.out HB7.out.size (below_alloc (Below.refl _ w7) (.cells #[.pointer (some (ad.add (i * 5))), .pointer none, .int .i64 0, .bool false, .bool false] 148))
  obtain ⟨ad', A3, c3, A2, c2, eA, h0, -, h3, -, -, hd3, hinds, -, -⟩ := at_T70 HC.out (i : Int) (by omega) (by omega)
  rw [rd70 _ _ hil] at h0 h3 hd3 hinds
  simp only [Int.toNat_natCast] at h0 h3
  obtain rfl : ad = ad' := by injection eA
  have hlt := World.block_lt_of_cell? w _ h0
  have hpE : (ad.add (i * 5)).block ≠ w7.heap.size := by have := HB7.out.size; omega
  refine (ccol_no w7.heap.size (ad.add (i * 5)) (.pointer none) 0 false false ts[i].f2 A3 c3 elem _ (heap_alloc_new w7 _) (pw_cell_below hB8 h3) (Kd.C_below hinds hB8) hpE hk).mono ?_
  rintro e w9 ⟨rfl, hb9⟩
  have hB9 := HB7.out.trans (show Below w.heap.size w7 w9 from ((below_alloc (Below.refl _ w7) _).trans hb9).mono HB7.out.size)
  have HF := Aside0.mk hB9
  clear hb9 hB9 hB8 h0 h3 hinds eA heq x1' hmm hmf
  go_wp2
  go_ret2
  exact ⟨⟨_, rfl⟩, HF.out⟩
set_option maxRecDepth 100000 in
set_option maxHeartbeats 4000000 in
theorem find_cnul_no (X : Nat) (v nx kind table elem : Int) (ts : List S70) (ad : Addr) (c i : Nat) (w : World) (hkd : finder kind = .func (.func 148) #[] #[]) (hX : w.heap[X]? = some (.cells #[.int .i64 v, .slice (some ad) ts.length c, .int .i64 nx] 28 (0, 0))) (hC : k70.C w (some ad) ts.length ts)
    (hi : idxL (tId table) ts 0 = (i : Int)) (hil : i < ts.length) (hk : idxL (cId elem) ts[i].f2 0 = -1) :
    Calls Tryd.prog 107 #[.pointer (some ⟨X, 0, none⟩), .int .i64 kind, .int .i64 table, .int .i64 elem] w fun e w' => (∃ p, e = .returned (.tuple #[.pointer p, .bool false])) ∧ Below w.heap.size w w' := by
  have hXl := blk_lt hX
  obtain ⟨W0, hW0⟩ : ∃ W0, W0 = (w.alloc (.cells #[.int .i64 table] 3)).alloc (.map #[] 0) := ⟨_, rfl⟩
  have hB0 : Below w.heap.size w W0 := by rw [hW0]; exact below_alloc (below_alloc (Below.refl _ _) _) _
  have hm0 : W0.heap[w.heap.size + 1]? = some (.map #[] 0) := by
    have := heap_alloc_new (w.alloc (.cells #[.int .i64 table] 3)) (.map #[] 0)
    rw [hW0]
    simpa using this
  have ht0 : W0.heap[w.heap.size]? = some (.cells #[.int .i64 table] 3 (0, 0)) := by rw [hW0]; exact blk_alloc (heap_alloc_new w _) _
  obtain ⟨W1, W2, W3, W4, W5, W6, i1, i2, i3, i4, i5, i6, hm6, hg6⟩ := finds_made W0 (w.heap.size + 1) hm0
  have hB6 : Below w.heap.size w W6 := hB0.grown hg6 hB0.size (fun k hk => by injection hk with hk; omega)
  have ht6 : W6.heap[w.heap.size]? = some (.cells #[.int .i64 table] 3 (0, 0)) := (hg6.block _ (blk_lt ht0) (fun e => by injection e with e; omega)).trans ht0
  have hlook := finds_look hm6 kind
  rw [hkd] at hlook
  have hx6 := blk_below hX hB6
  have x1 := blk_cell (j := 1) (v := .slice (some ad) ts.length c) hx6 rfl
  have HQ := Lib.hid (idx70 149 #[.pointer (some ⟨w.heap.size, 0, none⟩)] enters149 (fun x => x.f0 == table) (some ad) c ts W6 (Kd.C_below hC hB6) (pred149 table w.heap.size W6 (blk_lt ht6) (blk_cell ht6 rfl)))
  rw [idxL_same (fun x : S70 => x.f0 == table) (tId table) (fun x => by unfold tId; rfl), hi] at HQ
  have hmm := @run_makeMap Tryd.prog
  have hmf : ∀ (fn : Fn) (first cap : Array Value) (w : World), (Instr.makeFunc fn first cap).run Tryd.prog w = .ok (.func fn first cap) w := fun _ _ _ _ => rfl
  have hii : (i : Int) < (ts.length : Int) := by omega
  have hi0 : (0 : Int) ≤ (i : Int) := by omega
  have HC := Aside0.mk hC
  have HB6 := Aside0.mk hB6
  have HX6 := Aside0.mk hx6
  rw [hW0] at i1
  clear hC hX hi hB0 hm0 ht0 hm6 hg6 hB6 ht6 hx6 hkd
  clear hW0
  go_enter Tryd.func107, Tryd.ntmps107
  have HE := Lib.hid enters148
  go_wp2_with fail
  refine HQ.out.mono ?_
  rintro e w7 ⟨rfl, hb7⟩
  have hx7 := blk_below HX6.out hb7
  have HX7 := Aside0.mk hx7
  have HB7 := Aside0.mk (below_then HB6.out HB6.out.size hb7)
  have x1' := blk_cell (j := 1) (v := .slice (some ad) ts.length c) hx7 rfl
  clear hb7 hx7 x1 i1 i2 i3 i4 i5 i6 hlook HX6 HB6 HQ
  have heq := eql_f148
  go_wp2_with fail
  have hB8 := below_then HB7.out HB7.out.size (below_alloc (Below.refl _ w7) (.cells #[.pointer (some (ad.add (i * 5))), .pointer none, .int .i64 0, .bool false, .bool false] 148))
  obtain ⟨ad', A3, c3, A2, c2, eA, h0, -, h3, -, -, hd3, hinds, -, -⟩ := at_T70 HC.out (i : Int) (by omega) (by omega)
  rw [rd70 _ _ hil] at h0 h3 hd3 hinds
  simp only [Int.toNat_natCast] at h0 h3
  obtain rfl : ad = ad' := by injection eA
  have hlt := World.block_lt_of_cell? w _ h0
  have hpE : (ad.add (i * 5)).block ≠ w7.heap.size := by have := HB7.out.size; omega
  refine (cnul_no w7.heap.size (ad.add (i * 5)) (.pointer none) 0 false false ts[i].f2 A3 c3 elem _ (heap_alloc_new w7 _) (pw_cell_below hB8 h3) (Kd.C_below hinds hB8) hpE hk).mono ?_
  rintro e w9 ⟨rfl, hb9⟩
  have hB9 := HB7.out.trans (show Below w.heap.size w7 w9 from ((below_alloc (Below.refl _ w7) _).trans hb9).mono HB7.out.size)
  have HF := Aside0.mk hB9
  clear hb9 hB9 hB8 h0 h3 hinds eA heq x1' hmm hmf
  go_wp2
  go_ret2
  exact ⟨⟨_, rfl⟩, HF.out⟩
set_option maxRecDepth 100000 in
set_option maxHeartbeats 4000000 in
theorem find_nil (X : Nat) (v nx kind table elem : Int) (ts : List S70) (A : Option Addr) (c : Nat) (w : World) (hkd : finder kind = .nilFunc) (hX : w.heap[X]? = some (.cells #[.int .i64 v, .slice A ts.length c, .int .i64 nx] 28 (0, 0))) (hC : k70.C w A ts.length ts) :
    Calls Tryd.prog 107 #[.pointer (some ⟨X, 0, none⟩), .int .i64 kind, .int .i64 table, .int .i64 elem] w fun e w' => (∃ p, e = .returned (.tuple #[.pointer p, .bool false])) ∧ Below w.heap.size w w' := by
  have hXl := blk_lt hX
  obtain ⟨W0, hW0⟩ : ∃ W0, W0 = (w.alloc (.cells #[.int .i64 table] 3)).alloc (.map #[] 0) := ⟨_, rfl⟩
  have hB0 : Below w.heap.size w W0 := by rw [hW0]; exact below_alloc (below_alloc (Below.refl _ _) _) _
  have hm0 : W0.heap[w.heap.size + 1]? = some (.map #[] 0) := by
    have := heap_alloc_new (w.alloc (.cells #[.int .i64 table] 3)) (.map #[] 0)
    rw [hW0]
    simpa using this
  have ht0 : W0.heap[w.heap.size]? = some (.cells #[.int .i64 table] 3 (0, 0)) := by rw [hW0]; exact blk_alloc (heap_alloc_new w _) _
  obtain ⟨W1, W2, W3, W4, W5, W6, i1, i2, i3, i4, i5, i6, hm6, hg6⟩ := finds_made W0 (w.heap.size + 1) hm0
  have hB6 : Below w.heap.size w W6 := hB0.grown hg6 hB0.size (fun k hk => by injection hk with hk; omega)
  have ht6 : W6.heap[w.heap.size]? = some (.cells #[.int .i64 table] 3 (0, 0)) := (hg6.block _ (blk_lt ht0) (fun e => by injection e with e; omega)).trans ht0
  have hlook := finds_look hm6 kind
  rw [hkd] at hlook
  have hx6 := blk_below hX hB6
  have x1 := blk_cell (j := 1) (v := .slice A ts.length c) hx6 rfl
  have HQ := Lib.hid (idx70 149 #[.pointer (some ⟨w.heap.size, 0, none⟩)] enters149 (fun x => x.f0 == table) A c ts W6 (Kd.C_below hC hB6) (pred149 table w.heap.size W6 (blk_lt ht6) (blk_cell ht6 rfl)))
  rw [idxL_same (fun x : S70 => x.f0 == table) (tId table) (fun x => by unfold tId; rfl)] at HQ
  have hmm := @run_makeMap Tryd.prog
  have hmf : ∀ (fn : Fn) (first cap : Array Value) (w : World), (Instr.makeFunc fn first cap).run Tryd.prog w = .ok (.func fn first cap) w := fun _ _ _ _ => rfl
  have HC := Aside0.mk hC
  have HB6 := Aside0.mk hB6
  have HX6 := Aside0.mk hx6
  rw [hW0] at i1
  clear hC hX hB0 hm0 ht0 hm6 hg6 hB6 ht6 hx6 hkd
  clear hW0
  go_enter Tryd.func107, Tryd.ntmps107
  go_wp2_with fail
  refine HQ.out.mono ?_
  rintro e w7 ⟨rfl, hb7⟩
  have hx7 := blk_below HX6.out hb7
  have HX7 := Aside0.mk hx7
  have HB7 := Aside0.mk (below_then HB6.out HB6.out.size hb7)
  have x1' := blk_cell (j := 1) (v := .slice A ts.length c) hx7 rfl
  clear hb7 hx7 x1 i1 i2 i3 i4 i5 i6 hlook HX6 HB6 HQ
  have heq := eql_nilF
  go_wp2
  go_ret2
  exact ⟨⟨none, rfl⟩, HB7.out⟩
set_option maxRecDepth 100000 in
set_option maxHeartbeats 4000000 in
theorem find_notab (X : Nat) (v nx kind table elem : Int) (ts : List S70) (A : Option Addr) (c : Nat) (F : Nat) (w : World) (hkd : finder kind = .func (.func F) #[] #[]) (hi : idxL (tId table) ts 0 = -1) (heqF : ∀ w, (binOp BinOp.eql 176 (Value.func (Fn.func F) #[] #[]) Value.nilFunc).run Tryd.prog w = .ok (.bool false) w) (hX : w.heap[X]? = some (.cells #[.int .i64 v, .slice A ts.length c, .int .i64 nx] 28 (0, 0))) (hC : k70.C w A ts.length ts) :
    Calls Tryd.prog 107 #[.pointer (some ⟨X, 0, none⟩), .int .i64 kind, .int .i64 table, .int .i64 elem] w fun e w' => (∃ p, e = .returned (.tuple #[.pointer p, .bool false])) ∧ Below w.heap.size w w' := by
  have hXl := blk_lt hX
  obtain ⟨W0, hW0⟩ : ∃ W0, W0 = (w.alloc (.cells #[.int .i64 table] 3)).alloc (.map #[] 0) := ⟨_, rfl⟩
  have hB0 : Below w.heap.size w W0 := by rw [hW0]; exact below_alloc (below_alloc (Below.refl _ _) _) _
  have hm0 : W0.heap[w.heap.size + 1]? = some (.map #[] 0) := by
    have := heap_alloc_new (w.alloc (.cells #[.int .i64 table] 3)) (.map #[] 0)
    rw [hW0]
    simpa using this
  have ht0 : W0.heap[w.heap.size]? = some (.cells #[.int .i64 table] 3 (0, 0)) := by rw [hW0]; exact blk_alloc (heap_alloc_new w _) _
  obtain ⟨W1, W2, W3, W4, W5, W6, i1, i2, i3, i4, i5, i6, hm6, hg6⟩ := finds_made W0 (w.heap.size + 1) hm0
  have hB6 : Below w.heap.size w W6 := hB0.grown hg6 hB0.size (fun k hk => by injection hk with hk; omega)
  have ht6 : W6.heap[w.heap.size]? = some (.cells #[.int .i64 table] 3 (0, 0)) := (hg6.block _ (blk_lt ht0) (fun e => by injection e with e; omega)).trans ht0
  have hlook := finds_look hm6 kind
  rw [hkd] at hlook
  have hx6 := blk_below hX hB6
  have x1 := blk_cell (j := 1) (v := .slice A ts.length c) hx6 rfl
  have HQ := Lib.hid (idx70 149 #[.pointer (some ⟨w.heap.size, 0, none⟩)] enters149 (fun x => x.f0 == table) A c ts W6 (Kd.C_below hC hB6) (pred149 table w.heap.size W6 (blk_lt ht6) (blk_cell ht6 rfl)))
  rw [idxL_same (fun x : S70 => x.f0 == table) (tId table) (fun x => by unfold tId; rfl), hi] at HQ
  have hmm := @run_makeMap Tryd.prog
  have hmf : ∀ (fn : Fn) (first cap : Array Value) (w : World), (Instr.makeFunc fn first cap).run Tryd.prog w = .ok (.func fn first cap) w := fun _ _ _ _ => rfl
  have HC := Aside0.mk hC
  have HB6 := Aside0.mk hB6
  have HX6 := Aside0.mk hx6
  rw [hW0] at i1
  clear hC hX hi hB0 hm0 ht0 hm6 hg6 hB6 ht6 hx6 hkd
  clear hW0
  go_enter Tryd.func107, Tryd.ntmps107
  go_wp2_with fail
  refine HQ.out.mono ?_
  rintro e w7 ⟨rfl, hb7⟩
  have hx7 := blk_below HX6.out hb7
  have HX7 := Aside0.mk hx7
  have HB7 := Aside0.mk (below_then HB6.out HB6.out.size hb7)
  have x1' := blk_cell (j := 1) (v := .slice A ts.length c) hx7 rfl
  clear hb7 hx7 x1 i1 i2 i3 i4 i5 i6 hlook HX6 HB6 HQ
  have heq := heqF
  go_wp2
  go_ret2
  exact ⟨⟨none, rfl⟩, HB7.out⟩
end Go.Proofs.YtjgomlcdmpcoaaaDoor.H
namespace Go.Proofs.YtjgomlcdmpcoaaaDoor.H
open Go.RowKit Go.Proofs.YtjgomlcdmpcoaaaDoorW.PrintWords Go.Proofs.YtjgomlcdmpcoaaaDoorW.PrintLast Go.Proofs.YtjgomlcdmpcoaaaDoorW.PrintMore
open Go.Proofs.YtjgomlcdmpcoaaaDoor.D Go.Proofs.YtjgomlcdmpcoaaaDoor
set_option linter.unusedVariables false
set_option linter.unusedSimpArgs false
def tS (ts : List S70) (kind table elem : Int) : Int := if 0 ≤ idxL (tId table) ts 0 then elemI (rd_T70 ts (idxL (tId table) ts 0)) kind elem else -1
def StIn (ts : List S70) (s : Int) : Prop := ∃ t ∈ ts, (∃ c ∈ t.f2, s = c.f3 ∨ s = c.f4) ∨ (∃ x ∈ t.f3, s = x.f4)
def FndS (ts : List S70) (s : Int) (w w' : World) (e : Ending) : Prop :=
  Below w.heap.size w w' ∧ ((s = -1 ∧ ∃ p, e = .returned (.tuple #[.pointer p, .bool false])) ∨ (∃ E pa st k ix rl, e = .returned (.tuple #[.pointer (some ⟨E, 0, none⟩), .bool true]) ∧ ElemOk E pa st k ix rl w' ∧ w'.cell? st = some (.int .i64 s) ∧ StIn ts s))
theorem finder_cases (kind : Int) : (finder kind = .nilFunc ∧ ¬ (6 ≤ kind ∧ kind ≤ 11)) ∨ (finder kind = .func (.func 146) #[] #[] ∧ (kind = 6 ∨ kind = 7)) ∨ (finder kind = .func (.func 147) #[] #[] ∧ (kind = 8 ∨ kind = 9)) ∨ (finder kind = .func (.func 148) #[] #[] ∧ (kind = 10 ∨ kind = 11)) := by
  unfold finder
  by_cases h1 : kind = 6 ∨ kind = 7
  · rw [if_pos h1]; exact .inr (.inl ⟨rfl, h1⟩)
  rw [if_neg h1]
  by_cases h2 : kind = 8 ∨ kind = 9
  · rw [if_pos h2]; exact .inr (.inr (.inl ⟨rfl, h2⟩))
  rw [if_neg h2]
  by_cases h3 : kind = 10 ∨ kind = 11
  · rw [if_pos h3]; exact .inr (.inr (.inr ⟨rfl, h3⟩))
  rw [if_neg h3]
  exact .inl ⟨rfl, by omega⟩
theorem elemI_x (t : S70) {kind : Int} (h : kind = 6 ∨ kind = 7) (elem : Int) : elemI t kind elem = if 0 ≤ idxL (xId elem) t.f3 0 then (rd_T98 t.f3 (idxL (xId elem) t.f3 0)).f4 else -1 := by unfold elemI; rw [if_pos h]
theorem elemI_c (t : S70) {kind : Int} (h : kind = 8 ∨ kind = 9) (elem : Int) : elemI t kind elem = if 0 ≤ idxL (cId elem) t.f2 0 then (rd_T75 t.f2 (idxL (cId elem) t.f2 0)).f3 else -1 := by
  unfold elemI; rw [if_neg (by omega), if_pos (by omega), if_pos (show kind < 10 by omega)]
theorem elemI_n (t : S70) {kind : Int} (h : kind = 10 ∨ kind = 11) (elem : Int) : elemI t kind elem = if 0 ≤ idxL (cId elem) t.f2 0 then (rd_T75 t.f2 (idxL (cId elem) t.f2 0)).f4 else -1 := by
  unfold elemI; rw [if_neg (by omega), if_pos (by omega), if_neg (show ¬ kind < 10 by omega)]
theorem elemI_0 (t : S70) {kind : Int} (h : ¬ (6 ≤ kind ∧ kind ≤ 11)) (elem : Int) : elemI t kind elem = -1 := by
  unfold elemI; rw [if_neg (by omega), if_neg (by omega)]
theorem fnd_no {ts : List S70} {s : Int} {w w' : World} {e : Ending} (hs : s = -1) (h : (∃ p, e = .returned (.tuple #[.pointer p, .bool false])) ∧ Below w.heap.size w w') : FndS ts s w w' e := ⟨h.2, .inl ⟨hs, h.1⟩⟩
theorem find_calls (X : Nat) (v nx kind table elem : Int) (ts : List S70) (A : Option Addr) (c : Nat) (w : World) (hX : w.heap[X]? = some (.cells #[.int .i64 v, .slice A ts.length c, .int .i64 nx] 28 (0, 0))) (hC : k70.C w A ts.length ts) :
    Calls Tryd.prog 107 #[.pointer (some ⟨X, 0, none⟩), .int .i64 kind, .int .i64 table, .int .i64 elem] w fun e w' => FndS ts (tS ts kind table elem) w w' e := by
  rcases idxL_at (tId table) ts with hi | ⟨i, hil, hi, -⟩
  · have hs : tS ts kind table elem = -1 := by unfold tS; rw [hi, if_neg (by omega)]
    rcases finder_cases kind with ⟨h, -⟩ | ⟨h, -⟩ | ⟨h, -⟩ | ⟨h, -⟩
    · exact (find_nil X v nx kind table elem ts A c w h hX hC).mono fun e w' h => fnd_no hs h
    · exact (find_notab X v nx kind table elem ts A c 146 w h hi eql_f146 hX hC).mono fun e w' h => fnd_no hs h
    · exact (find_notab X v nx kind table elem ts A c 147 w h hi eql_f147 hX hC).mono fun e w' h => fnd_no hs h
    · exact (find_notab X v nx kind table elem ts A c 148 w h hi eql_f148 hX hC).mono fun e w' h => fnd_no hs h
  · have hs : tS ts kind table elem = elemI ts[i] kind elem := by unfold tS; rw [hi, if_pos (by omega), rd70 _ _ hil]
    have hm : ts[i] ∈ ts := List.getElem_mem hil
    rw [hs]
    obtain ⟨ad, A2, c2, A3, c3, eA, -⟩ := at_T70 hC (i : Int) (by omega) (by omega)
    subst eA
    rcases finder_cases kind with ⟨h, hk⟩ | ⟨h, hk⟩ | ⟨h, hk⟩ | ⟨h, hk⟩
    · exact (find_nil X v nx kind table elem ts (some ad) c w h hX hC).mono fun e w' h => fnd_no (elemI_0 _ hk elem) h
    · rw [elemI_x _ hk]
      rcases idxL_at (xId elem) ts[i].f3 with hq | ⟨k, hkl, hq, -⟩
      · exact (find_indexOf_no X v nx kind table elem ts ad c i w h hX hC hi hil hq).mono fun e w' h => fnd_no (by rw [hq, if_neg (by omega)]) h
      · rw [hq, if_pos (by omega), rd98 _ _ hkl]
        exact (find6_yes X v nx kind table elem ts ad c i k w h hX hC hi hil hq hkl).mono fun e w' ⟨E, a3, he, hb, hel, hst, _⟩ => ⟨hb, .inr ⟨E, _, _, k, true, false, he, hel, hst, _, hm, .inr ⟨_, List.getElem_mem hkl, rfl⟩⟩⟩
    · rw [elemI_c _ hk]
      rcases idxL_at (cId elem) ts[i].f2 with hq | ⟨k, hkl, hq, -⟩
      · exact (find_ccol_no X v nx kind table elem ts ad c i w h hX hC hi hil hq).mono fun e w' h => fnd_no (by rw [hq, if_neg (by omega)]) h
      · rw [hq, if_pos (by omega), rd75 _ _ hkl]
        exact (find_ccol_yes X v nx kind table elem ts ad c i k w h hX hC hi hil hq hkl).mono fun e w' ⟨E, a3, he, hb, hel, hst, _⟩ => ⟨hb, .inr ⟨E, _, _, k, false, false, he, hel, hst, _, hm, .inl ⟨_, List.getElem_mem hkl, .inl rfl⟩⟩⟩
    · rw [elemI_n _ hk]
      rcases idxL_at (cId elem) ts[i].f2 with hq | ⟨k, hkl, hq, -⟩
      · exact (find_cnul_no X v nx kind table elem ts ad c i w h hX hC hi hil hq).mono fun e w' h => fnd_no (by rw [hq, if_neg (by omega)]) h
      · rw [hq, if_pos (by omega), rd75 _ _ hkl]
        exact (find_cnul_yes X v nx kind table elem ts ad c i k w h hX hC hi hil hq hkl).mono fun e w' ⟨E, a3, he, hb, hel, hst, _⟩ => ⟨hb, .inr ⟨E, _, _, k, false, true, he, hel, hst, _, hm, .inl ⟨_, List.getElem_mem hkl, .inr rfl⟩⟩⟩
theorem stIn_pos {v nx : Int} {ts : List S70} (h : schB v ts nx = true) {s : Int} (hs : StIn ts s) : 0 ≤ s ∧ s ≤ 4 := by
  obtain ⟨t, ht, hq⟩ := hs
  have hb := schB_tab h t ht
  unfold tableB at hb
  simp only [Bool.and_eq_true, decide_eq_true_eq] at hb
  obtain ⟨_, _, _, _, _, _, h7, h8, _⟩ := hb
  rcases hq with ⟨c, hc, hq⟩ | ⟨x, hx, hq⟩
  · have := tcolsB_all _ _ _ h7 c hc
    unfold columnB stateB at this
    simp only [Bool.and_eq_true, decide_eq_true_eq] at this
    rcases hq with rfl | rfl <;> omega
  · have := tindsB_all _ _ _ h8 x hx
    unfold indexB stateB at this
    simp only [Bool.and_eq_true, decide_eq_true_eq] at this
    omega
set_option maxRecDepth 100000 in
set_option maxHeartbeats 4000000 in
theorem cstate_calls (v : Int) (ts : List S70) (nx kind table elem : Int) (hwf : ∀ t ∈ ts, TabWf t) (A : Option Addr) (c : Nat) (w : World) (hG : GL w) (hc : ts.length ≤ c) (hC : k70.C w A ts.length ts) :
    Calls Tryd.prog 53 #[.agg #[.int .i64 v, .slice A ts.length c, .int .i64 nx], .int .i64 kind, .int .i64 table, .int .i64 elem] w fun e w' => e = .returned (.tuple #[.int .i64 (if stateI v ts nx kind table elem < 0 then 0 else stateI v ts nx kind table elem), .bool (decide (0 ≤ stateI v ts nx kind table elem))]) ∧ Below w.heap.size w w' := by
  have hb0 := below_alloc (Below.refl _ w) (.cells #[.int .i64 v, .slice A ts.length c, .int .i64 nx] 28)
  have HM := Lib.hid (may_calls v ts nx hwf A c (w.alloc (.cells #[.int .i64 v, .slice A ts.length c, .int .i64 nx] 28)) (hG.of_below hb0) (Kd.C_below hC hb0))
  have HX := Aside0.mk (heap_alloc_new w (.cells #[.int .i64 v, .slice A ts.length c, .int .i64 nx] 28))
  have HF := Lib.hid (fun (w' : World) (hb : Below w.heap.size w w') hX => find_calls w.heap.size v nx kind table elem ts A c w' hX (Kd.C_below hC hb))
  have HB0 := Aside0.mk hb0
  obtain ⟨s, hs⟩ : ∃ s, stateI v ts nx kind table elem = s := ⟨_, rfl⟩
  have hst : (schB v ts nx = false ∧ s = -1) ∨ (schB v ts nx = true ∧ tS ts kind table elem = s) := by
    rw [← hs]
    unfold stateI tS
    cases hq : schB v ts nx with
    | false => left; exact ⟨rfl, by split <;> simp⟩
    | true => right; exact ⟨rfl, by split <;> simp⟩
  rw [hs]
  clear hs hb0 hC hG hwf
  rcases hst with ⟨h1, rfl⟩ | ⟨h1, h2⟩
  · rw [h1] at HM
    clear h1 HF
    go_enter Tryd.func53, Tryd.ntmps53
    go_wp2_with fail
    refine HM.out.mono ?_
    rintro e w1 ⟨rfl, hb1⟩
    have HB1 := Aside0.mk (below_then HB0.out (by simp) hb1)
    clear hb1 HM
    go_wp2
    go_ret2
    exact ⟨rfl, HB1.out⟩
  · rw [h2] at HF
    have HP := Lib.hid (fun hs => stIn_pos h1 (s := s) hs)
    rw [h1] at HM
    obtain ⟨r, hr⟩ : ∃ r, (if s < 0 then 0 else s) = r := ⟨_, rfl⟩
    obtain ⟨b, hb⟩ : ∃ b, decide (0 ≤ s) = b := ⟨_, rfl⟩
    rw [hr, hb]
    have HRB := Lib.hid (And.intro hr hb)
    clear h1 h2 hr hb
    go_enter Tryd.func53, Tryd.ntmps53
    go_wp2_with fail
    refine HM.out.mono ?_
    rintro e w1 ⟨rfl, hb1⟩
    have HB1 := Aside0.mk (below_then HB0.out (by simp) hb1)
    have hx1 := blk_below HX.out hb1
    have HX1 := Aside0.mk hx1
    clear hb1 hx1 HM HB0 HX
    go_wp2_with fail
    refine (HF.out _ HB1.out HX1.out).mono ?_
    rintro e w2 ⟨hb2, ⟨rfl, p, rfl⟩ | ⟨E, pa, st, k, ix, rl, rfl, hel, hst, hin⟩⟩
    · have HB2 := Aside0.mk (below_then HB1.out HB1.out.size hb2)
      obtain rfl : r = 0 := by rw [← HRB.out.1]; rfl
      obtain rfl : b = false := by rw [← HRB.out.2]; rfl
      clear hb2 HF HRB
      go_wp2
      go_ret2
      exact ⟨rfl, HB2.out⟩
    · have HB2 := Aside0.mk (below_then HB1.out HB1.out.size hb2)
      have hp := (HP.out hin).1
      have e1 := blk_cell (j := 1) (v := .pointer (some st)) hel rfl
      obtain rfl : r = s := by rw [← HRB.out.1, if_neg (by omega)]
      obtain rfl : b = true := by rw [← HRB.out.2, decide_eq_true hp]
      clear hb2 hel HF hp HRB
      go_wp2
      go_ret2
      exact ⟨rfl, HB2.out⟩
end Go.Proofs.YtjgomlcdmpcoaaaDoor.H
