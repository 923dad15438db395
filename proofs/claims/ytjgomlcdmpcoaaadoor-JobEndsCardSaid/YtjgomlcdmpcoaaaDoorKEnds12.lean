/- Own texts of this session, packed by its program wip/pp/pack.py: lemmas and walks of functions. -/
import Derived.Test.YtjgomlcdmpcoaaaDoorKEnds8
import Derived.Test.YtjgomlcdmpcoaaaDoorKEnds9
import Derived.Test.YtjgomlcdmpcoaaaDoorKEnds10
import Derived.Test.YtjgomlcdmpcoaaaDoorKEnds11
namespace Go.Proofs.YtjgomlcdmpcoaaaDoor.H
open Go.RowKit Go.Proofs.YtjgomlcdmpcoaaaDoorW.PrintWords Go.Proofs.YtjgomlcdmpcoaaaDoorW.PrintLast Go.Proofs.YtjgomlcdmpcoaaaDoorW.PrintMore
open Go.Proofs.YtjgomlcdmpcoaaaDoor.D Go.Proofs.YtjgomlcdmpcoaaaDoor
set_option linter.unusedVariables false
set_option linter.unusedSimpArgs false
def nextP (how : Int) (rd : Bool) (s : Int) : Int × Int :=
  if s < 0 then (0, 5) else if s = 0 ∨ (how = 1 ∧ s = 4) then (0, 12) else if how = 1 ∧ s = 2 ∧ rd = false then (2, 0) else if how = 1 then (1, 0) else if s = 1 ∧ rd = false then (4, 0) else (3, 0)
def nextQ (v : Int) (ts : List S70) (nx a0 a1 a2 a3 a4 : Int) (rd : Bool) (fr : ByteArray) (bad : Bool) : Int × Int :=
  if schB v ts nx = false ∨ jobB a0 a1 a2 a3 a4 fr bad = false then (0, 1) else if 3 ≤ a4 then (0, 20) else nextP a4 rd (stateI v ts nx a1 a2 a3)
theorem jobB_how {a0 a1 a2 a3 a4 : Int} {fr : ByteArray} {bad : Bool} (h : jobB a0 a1 a2 a3 a4 fr bad = true) : 1 ≤ a4 ∧ a4 ≤ 4 := by
  unfold jobB at h
  simp only [Bool.and_eq_true, decide_eq_true_eq] at h
  exact ⟨h.2.2.2.2.2.2.2.2.1, h.2.2.2.2.2.2.2.2.2.1⟩
theorem elemI_in {ts : List S70} {t : S70} (ht : t ∈ ts) (kind elem : Int) : elemI t kind elem = -1 ∨ StIn ts (elemI t kind elem) := by
  unfold elemI
  split
  · rcases idxL_at (xId elem) t.f3 with e | ⟨k, hk, e, -⟩
    · rw [e, if_neg (by omega)]; exact .inl rfl
    · rw [e, if_pos (by omega), rd98 _ _ hk]; exact .inr ⟨t, ht, .inr ⟨_, List.getElem_mem hk, rfl⟩⟩
  split
  · rcases idxL_at (cId elem) t.f2 with e | ⟨k, hk, e, -⟩
    · rw [e, if_neg (by omega)]; exact .inl rfl
    · rw [e, if_pos (by omega), rd75 _ _ hk]
      split
      · exact .inr ⟨t, ht, .inl ⟨_, List.getElem_mem hk, .inl rfl⟩⟩
      · exact .inr ⟨t, ht, .inl ⟨_, List.getElem_mem hk, .inr rfl⟩⟩
  · exact .inl rfl
theorem stateI_in {v nx : Int} {ts : List S70} (h : schB v ts nx = true) (kind table elem : Int) : stateI v ts nx kind table elem = -1 ∨ stateI v ts nx kind table elem = 0 ∨ stateI v ts nx kind table elem = 1 ∨ stateI v ts nx kind table elem = 2 ∨ stateI v ts nx kind table elem = 3 ∨ stateI v ts nx kind table elem = 4 := by
  unfold stateI
  rcases idxL_at (tId table) ts with e | ⟨k, hk, e, -⟩
  · rw [e, if_neg (by omega)]; exact .inl rfl
  · rw [e, if_pos (by omega), if_pos h, rd70 _ _ hk]
    rcases elemI_in (List.getElem_mem hk) kind elem with q | q
    · exact .inl q
    · have := stIn_pos h q
      omega
set_option maxRecDepth 100000 in
set_option maxHeartbeats 4000000 in
theorem jnext_calls (v : Int) (ts : List S70) (nx : Int) (hwf : ∀ t ∈ ts, TabWf t) (A : Option Addr) (c : Nat) (a0 a1 a2 a3 a4 : Int) (rd : Bool) (fr : ByteArray) (bad : Bool) (w : World) (hG : GL w) (hc : ts.length ≤ c) (hC : k70.C w A ts.length ts) :
    Calls Tryd.prog 26 #[.agg #[.int .i64 v, .slice A ts.length c, .int .i64 nx], .agg #[.int .i64 a0, .int .i64 a1, .int .i64 a2, .int .i64 a3, .int .i64 a4, .bool rd, .string fr, .bool bad]] w fun e w' => e = .returned (.tuple #[.int .i64 (nextQ v ts nx a0 a1 a2 a3 a4 rd fr bad).1, .int .i64 (nextQ v ts nx a0 a1 a2 a3 a4 rd fr bad).2]) ∧ Below w.heap.size w w' := by
  have HW : ∀ t ∈ ts, ∀ c ∈ t.f2, ValWf c.f5 := fun t ht c hc => ((hwf t ht).2.1 c hc).2.2.2
  obtain ⟨w0, hw0⟩ : ∃ w0, w0 = (w.alloc (.cells #[.int .i64 v, .slice A ts.length c, .int .i64 nx] 28)).alloc (.cells #[.int .i64 a0, .int .i64 a1, .int .i64 a2, .int .i64 a3, .int .i64 a4, .bool rd, .string fr, .bool bad] 23) := ⟨_, rfl⟩
  have hb0 : Below w.heap.size w w0 := by rw [hw0]; exact below_alloc (below_alloc (Below.refl _ _) _) _
  have hx0 : w0.heap[w.heap.size]? = some (.cells #[.int .i64 v, .slice A ts.length c, .int .i64 nx] 28 (0, 0)) := by rw [hw0]; exact blk_alloc (heap_alloc_new w _) _
  have hy0 : w0.heap[w.heap.size + 1]? = some (.cells #[.int .i64 a0, .int .i64 a1, .int .i64 a2, .int .i64 a3, .int .i64 a4, .bool rd, .string fr, .bool bad] 23 (0, 0)) := by
    have := heap_alloc_new (w.alloc (.cells #[.int .i64 v, .slice A ts.length c, .int .i64 nx] 28)) (.cells #[.int .i64 a0, .int .i64 a1, .int .i64 a2, .int .i64 a3, .int .i64 a4, .bool rd, .string fr, .bool bad] 23)
    rw [hw0]
    simpa using this
  have HM := Lib.hid (may_calls v ts nx hwf A c w0 (hG.of_below hb0) (Kd.C_below hC hb0))
  have HJ := Lib.hid (fun w => jmay_calls a0 a1 a2 a3 a4 rd fr bad w)
  have HB0 := Aside0.mk hb0
  have HX0 := Aside0.mk hx0
  have HY0 := Aside0.mk hy0
  obtain ⟨n, er, hR⟩ : ∃ n er, nextQ v ts nx a0 a1 a2 a3 a4 rd fr bad = (n, er) := ⟨_, _, rfl⟩
  rw [hR]
  unfold nextQ at hR
  rw [hw0] at HM
  have HW0 := Lib.hid hw0
  cases hsch : schB v ts nx with
  | false =>
    rw [hsch] at HM hR
    obtain ⟨rfl, rfl⟩ : n = 0 ∧ er = 1 := by rw [if_pos (.inl rfl)] at hR; injection hR with h1 h2; exact ⟨h1.symm, h2.symm⟩
    clear hb0 hx0 hy0 hC hG hwf hw0 hR hsch HW
    go_enter Tryd.func26, Tryd.ntmps26
    go_wp2_with fail
    refine HM.out.mono ?_
    rw [← HW0.out]
    rintro e w1 ⟨rfl, hb1⟩
    have HB1 := Aside0.mk (below_then HB0.out HB0.out.size hb1)
    clear hb1 HM
    go_wp2
    go_ret2
    exact ⟨rfl, HB1.out⟩
  | true =>
  have HS := Lib.hid (fun (w' : World) (hb : Below w.heap.size w w') => cstate_calls v ts nx a1 a2 a3 hwf A c w' (hG.of_below hb) hc (Kd.C_below hC hb))
  have hsI := stateI_in hsch a1 a2 a3
  obtain ⟨s, hs⟩ : ∃ s, stateI v ts nx a1 a2 a3 = s := ⟨_, rfl⟩
  rw [hs] at HS hR hsI
  rw [hsch] at HM hR
  clear hb0 hx0 hy0 hC hG hwf hw0 hs hsch HW
  cases hj : jobB a0 a1 a2 a3 a4 fr bad with
  | false =>
    rw [hj] at HJ hR
    obtain ⟨rfl, rfl⟩ : n = 0 ∧ er = 1 := by rw [if_pos (.inr rfl)] at hR; injection hR with h1 h2; exact ⟨h1.symm, h2.symm⟩
    clear hR hj hsI
    go_enter Tryd.func26, Tryd.ntmps26
    go_wp2_with fail
    refine HM.out.mono ?_
    rw [← HW0.out]
    rintro e w1 ⟨rfl, hb1⟩
    have HB1 := Aside0.mk (below_then HB0.out HB0.out.size hb1)
    have hx1 := blk_below HX0.out hb1
    have hy1 := blk_below HY0.out hb1
    have HX1 := Aside0.mk hx1
    have HY1 := Aside0.mk hy1
    have y0 := blk_cell (j := 0) (v := .int .i64 a0) hy1 rfl
    have y1 := blk_cell (j := 1) (v := .int .i64 a1) hy1 rfl
    have y2 := blk_cell (j := 2) (v := .int .i64 a2) hy1 rfl
    have y3 := blk_cell (j := 3) (v := .int .i64 a3) hy1 rfl
    have y4 := blk_cell (j := 4) (v := .int .i64 a4) hy1 rfl
    have y5 := blk_cell (j := 5) (v := .bool rd) hy1 rfl
    have y6 := blk_cell (j := 6) (v := .string fr) hy1 rfl
    have y7 := blk_cell (j := 7) (v := .bool bad) hy1 rfl
    clear hb1 hx1 hy1 HM HB0 HX0 HY0
    go_wp2_with fail
    refine (HJ.out _).mono ?_
    rintro e w2 ⟨rfl, hb2⟩
    have HB2 := Aside0.mk (below_then HB1.out HB1.out.size hb2)
    have hx2 := blk_below HX1.out hb2
    have hy2 := blk_below HY1.out hb2
    have HY2 := Aside0.mk hy2
    clear y0 y1 y2 y3 y4 y5 y6 y7
    clear hb2 hx2 hy2 HJ HB1 HX1 HY1
    go_wp2
    go_ret2
    exact ⟨rfl, HB2.out⟩
  | true =>
  have hh := jobB_how hj
  rw [hj] at HJ hR
  rw [if_neg (by simp)] at hR
  clear hj
  have hh' : (a4 = 3 ∨ a4 = 4) ∨ (a4 = 1 ∨ a4 = 2) := by omega
  clear hh
  rcases hh' with hh | hh
  · have hR2 := (if_pos (show 3 ≤ a4 by omega)).symm.trans hR
    obtain ⟨rfl, rfl⟩ : n = 0 ∧ er = 20 := by injection hR2 with h1 h2; exact ⟨h1.symm, h2.symm⟩
    clear hR hR2 hsI
    rcases hh with rfl | rfl
    all_goals
      go_enter Tryd.func26, Tryd.ntmps26
      go_wp2_with fail
      refine HM.out.mono ?_
      rw [← HW0.out]
      rintro e w1 ⟨rfl, hb1⟩
      have HB1 := Aside0.mk (below_then HB0.out HB0.out.size hb1)
      have hx1 := blk_below HX0.out hb1
      have hy1 := blk_below HY0.out hb1
      have HX1 := Aside0.mk hx1
      have HY1 := Aside0.mk hy1
      have y0 := blk_cell (j := 0) (v := .int .i64 a0) hy1 rfl
      have y1 := blk_cell (j := 1) (v := .int .i64 a1) hy1 rfl
      have y2 := blk_cell (j := 2) (v := .int .i64 a2) hy1 rfl
      have y3 := blk_cell (j := 3) (v := .int .i64 a3) hy1 rfl
      first
        | have y4 := blk_cell (j := 4) (v := .int .i64 3) hy1 rfl
        | have y4 := blk_cell (j := 4) (v := .int .i64 4) hy1 rfl
      have y5 := blk_cell (j := 5) (v := .bool rd) hy1 rfl
      have y6 := blk_cell (j := 6) (v := .string fr) hy1 rfl
      have y7 := blk_cell (j := 7) (v := .bool bad) hy1 rfl
      clear hb1 hx1 hy1 HM HB0 HX0 HY0
      go_wp2_with fail
      refine (HJ.out _).mono ?_
      rintro e w2 ⟨rfl, hb2⟩
      have HB2 := Aside0.mk (below_then HB1.out HB1.out.size hb2)
      have hx2 := blk_below HX1.out hb2
      have hy2 := blk_below HY1.out hb2
      have HY2 := Aside0.mk hy2
      clear y0 y1 y2 y3 y4 y5 y6 y7
      first
        | have y4 := blk_cell (j := 4) (v := .int .i64 3) hy2 rfl
        | have y4 := blk_cell (j := 4) (v := .int .i64 4) hy2 rfl
      clear hb2 hx2 hy2 HJ HB1 HX1 HY1
      go_wp2
      go_ret2
      exact ⟨rfl, HB2.out⟩
  · have hR2 := (if_neg (show ¬ 3 ≤ a4 by omega)).symm.trans hR
    have HR := Lib.hid hR2
    clear hR hR2
    rcases hh with rfl | rfl
    all_goals
      go_enter Tryd.func26, Tryd.ntmps26
      go_wp2_with fail
      refine HM.out.mono ?_
      rw [← HW0.out]
      rintro e w1 ⟨rfl, hb1⟩
      have HB1 := Aside0.mk (below_then HB0.out HB0.out.size hb1)
      have hx1 := blk_below HX0.out hb1
      have hy1 := blk_below HY0.out hb1
      have HX1 := Aside0.mk hx1
      have HY1 := Aside0.mk hy1
      have y0 := blk_cell (j := 0) (v := .int .i64 a0) hy1 rfl
      have y1 := blk_cell (j := 1) (v := .int .i64 a1) hy1 rfl
      have y2 := blk_cell (j := 2) (v := .int .i64 a2) hy1 rfl
      have y3 := blk_cell (j := 3) (v := .int .i64 a3) hy1 rfl
      first
        | have y4 := blk_cell (j := 4) (v := .int .i64 1) hy1 rfl
        | have y4 := blk_cell (j := 4) (v := .int .i64 2) hy1 rfl
      have y5 := blk_cell (j := 5) (v := .bool rd) hy1 rfl
      have y6 := blk_cell (j := 6) (v := .string fr) hy1 rfl
      have y7 := blk_cell (j := 7) (v := .bool bad) hy1 rfl
      clear hb1 hx1 hy1 HM HB0 HX0 HY0
      go_wp2_with fail
      refine (HJ.out _).mono ?_
      rintro e w2 ⟨rfl, hb2⟩
      have HB2 := Aside0.mk (below_then HB1.out HB1.out.size hb2)
      have hx2 := blk_below HX1.out hb2
      have hy2 := blk_below HY1.out hb2
      have HY2 := Aside0.mk hy2
      clear y0 y1 y2 y3 y4 y5 y6 y7
      have x0 := blk_cell (j := 0) (v := .int .i64 v) hx2 rfl
      have x1 := blk_cell (j := 1) (v := .slice A ts.length c) hx2 rfl
      have x2 := blk_cell (j := 2) (v := .int .i64 nx) hx2 rfl
      have y1 := blk_cell (j := 1) (v := .int .i64 a1) hy2 rfl
      have y2 := blk_cell (j := 2) (v := .int .i64 a2) hy2 rfl
      have y3 := blk_cell (j := 3) (v := .int .i64 a3) hy2 rfl
      first
        | have y4 := blk_cell (j := 4) (v := .int .i64 1) hy2 rfl
        | have y4 := blk_cell (j := 4) (v := .int .i64 2) hy2 rfl
      clear hb2 hx2 hy2 HJ HB1 HX1 HY1
      go_wp2_with fail
      refine (HS.out _ HB2.out).mono ?_
      rintro e w3 ⟨rfl, hb3⟩
      have HB3 := Aside0.mk (below_then HB2.out HB2.out.size hb3)
      have hy3 := blk_below HY2.out hb3
      clear x0 x1 x2 y1 y2 y3 y4
      first
        | have y4 := blk_cell (j := 4) (v := .int .i64 1) hy3 rfl
        | have y4 := blk_cell (j := 4) (v := .int .i64 2) hy3 rfl
      have y5 := blk_cell (j := 5) (v := .bool rd) hy3 rfl
      clear hb3 hy3 HS HB2 HY2
      rcases hsI with rfl | rfl | rfl | rfl | rfl | rfl
      all_goals
        cases rd
        all_goals
          have hR := HR.out
          simp [nextP] at hR
          obtain ⟨rfl, rfl⟩ := hR
          go_wp2
          go_ret2
          exact ⟨rfl, HB3.out⟩
end Go.Proofs.YtjgomlcdmpcoaaaDoor.H
namespace Go.Proofs.YtjgomlcdmpcoaaaDoor.H
open Go.RowKit Go.Proofs.YtjgomlcdmpcoaaaDoorW.PrintWords Go.Proofs.YtjgomlcdmpcoaaaDoorW.PrintLast Go.Proofs.YtjgomlcdmpcoaaaDoorW.PrintMore
open Go.Proofs.YtjgomlcdmpcoaaaDoor.D Go.Proofs.YtjgomlcdmpcoaaaDoor
set_option linter.unusedVariables false
set_option linter.unusedSimpArgs false
set_option maxRecDepth 100000 in
set_option maxHeartbeats 4000000 in
theorem state6_yes (v nx kind table elem : Int) (ts : List S70) (hwf : ∀ t ∈ ts, TabWf t) (ad : Addr) (c i k : Nat) (w : World) (hG : GL w) (hkd : finder kind = .func (.func 146) #[] #[]) (hC : k70.C w (some ad) ts.length ts) (hsch : schB v ts nx = true)
    (hi : idxL (tId table) ts 0 = (i : Int)) (hil : i < ts.length) (hk : idxL (xId elem) ts[i].f3 0 = (k : Int)) (hkl : k < ts[i].f3.length) :
    Calls Tryd.prog 53 #[.agg #[.int .i64 v, .slice (some ad) ts.length c, .int .i64 nx], .int .i64 kind, .int .i64 table, .int .i64 elem] w fun e w' => e = .returned (.tuple #[.int .i64 ts[i].f3[k].f4, .bool true]) ∧ Below w.heap.size w w' := by
  have hb0 := below_alloc (Below.refl _ w) (.cells #[.int .i64 v, .slice (some ad) ts.length c, .int .i64 nx] 28)
  have HM := Lib.hid (may_calls v ts nx hwf (some ad) c (w.alloc (.cells #[.int .i64 v, .slice (some ad) ts.length c, .int .i64 nx] 28)) (hG.of_below hb0) (Kd.C_below hC hb0))
  rw [hsch] at HM
  have HX := Aside0.mk (heap_alloc_new w (.cells #[.int .i64 v, .slice (some ad) ts.length c, .int .i64 nx] 28))
  have HC := Aside0.mk hC
  have HF := Lib.hid (fun (w' : World) (hb : Below w.heap.size w w') hX => find6_yes w.heap.size v nx kind table elem ts ad c i k w' hkd hX (Kd.C_below hC hb) hi hil hk hkl)
  have HB0 := Aside0.mk hb0
  clear hb0 hC hG hsch hi hk hkd hwf
  generalize ts[i].f3[k].f4 = st at HF ⊢
  go_enter Tryd.func53, Tryd.ntmps53
  go_wp2_with fail
  refine HM.out.mono ?_
  rintro e w1 ⟨rfl, hb1⟩
  have HB1 := Aside0.mk (below_then HB0.out (by simp) hb1)
  have hx1 := blk_below HX.out hb1
  have HX1 := Aside0.mk hx1
  clear hb1 hx1 HM HB0 HX
  go_wp2_with fail
  refine (HF.out _ HB1.out HX1.out).mono ?_
  rintro e w2 ⟨E, a3, rfl, hb2, hel, hst⟩
  have HB2 := Aside0.mk (below_then HB1.out HB1.out.size hb2)
  have e1 := blk_cell (j := 1) (v := .pointer (some ⟨(a3.add (k * 5)).block, (a3.add (k * 5)).off + 4, none⟩)) hel rfl
  clear hb2 hel HF
  go_wp2
  go_ret2
  exact ⟨rfl, HB2.out⟩
set_option maxRecDepth 100000 in
set_option maxHeartbeats 4000000 in
theorem next_fill (v nx : Int) (ts : List S70) (hwf : ∀ t ∈ ts, TabWf t) (ad : Addr) (c i k : Nat) (table elem : Int) (w : World) (hG : GL w) (hC : k70.C w (some ad) ts.length ts) (hsch : schB v ts nx = true) (hj : jobB 1 6 table elem 1 ⟨#[]⟩ false = true)
    (hi : idxL (tId table) ts 0 = (i : Int)) (hil : i < ts.length) (hk : idxL (xId elem) ts[i].f3 0 = (k : Int)) (hkl : k < ts[i].f3.length) (hst : ts[i].f3[k].f4 = 2) :
    Calls Tryd.prog 26 #[.agg #[.int .i64 v, .slice (some ad) ts.length c, .int .i64 nx], .agg #[.int .i64 1, .int .i64 6, .int .i64 table, .int .i64 elem, .int .i64 1, .bool false, .string ⟨#[]⟩, .bool false]] w fun e w' => e = .returned (.tuple #[.int .i64 2, .int .i64 0]) ∧ Below w.heap.size w w' := by
  obtain ⟨w0, hw0⟩ : ∃ w0, w0 = (w.alloc (.cells #[.int .i64 v, .slice (some ad) ts.length c, .int .i64 nx] 28)).alloc (.cells #[.int .i64 1, .int .i64 6, .int .i64 table, .int .i64 elem, .int .i64 1, .bool false, .string ⟨#[]⟩, .bool false] 23) := ⟨_, rfl⟩
  have hb0 : Below w.heap.size w w0 := by rw [hw0]; exact below_alloc (below_alloc (Below.refl _ _) _) _
  have hx0 : w0.heap[w.heap.size]? = some (.cells #[.int .i64 v, .slice (some ad) ts.length c, .int .i64 nx] 28 (0, 0)) := by rw [hw0]; exact blk_alloc (heap_alloc_new w _) _
  have hy0 : w0.heap[w.heap.size + 1]? = some (.cells #[.int .i64 1, .int .i64 6, .int .i64 table, .int .i64 elem, .int .i64 1, .bool false, .string ⟨#[]⟩, .bool false] 23 (0, 0)) := by
    have := heap_alloc_new (w.alloc (.cells #[.int .i64 v, .slice (some ad) ts.length c, .int .i64 nx] 28)) (.cells #[.int .i64 1, .int .i64 6, .int .i64 table, .int .i64 elem, .int .i64 1, .bool false, .string ⟨#[]⟩, .bool false] 23)
    rw [hw0]
    simpa using this
  have HM := Lib.hid (may_calls v ts nx hwf (some ad) c w0 (hG.of_below hb0) (Kd.C_below hC hb0))
  rw [hsch] at HM
  have HJ := Lib.hid (fun w => jmay_calls 1 6 table elem 1 false ⟨#[]⟩ false w)
  rw [hj] at HJ
  have HS := Lib.hid (fun (w' : World) (hb : Below w.heap.size w w') => state6_yes v nx 6 table elem ts hwf ad c i k w' (hG.of_below hb) rfl (Kd.C_below hC hb) hsch hi hil hk hkl)
  rw [hst] at HS
  have HB0 := Aside0.mk hb0
  have HX0 := Aside0.mk hx0
  have HY0 := Aside0.mk hy0
  rw [hw0] at HM
  have HW0 := Lib.hid hw0
  clear hb0 hx0 hy0 hC hG hsch hi hk hwf hj hst hw0
  go_enter Tryd.func26, Tryd.ntmps26
  go_wp2_with fail
  refine HM.out.mono ?_
  rw [← HW0.out]
  rintro e w1 ⟨rfl, hb1⟩
  have HB1 := Aside0.mk (below_then HB0.out HB0.out.size hb1)
  have hx1 := blk_below HX0.out hb1
  have hy1 := blk_below HY0.out hb1
  have HX1 := Aside0.mk hx1
  have HY1 := Aside0.mk hy1
  have y0 := blk_cell (j := 0) (v := .int .i64 1) hy1 rfl
  have y1 := blk_cell (j := 1) (v := .int .i64 6) hy1 rfl
  have y2 := blk_cell (j := 2) (v := .int .i64 table) hy1 rfl
  have y3 := blk_cell (j := 3) (v := .int .i64 elem) hy1 rfl
  have y4 := blk_cell (j := 4) (v := .int .i64 1) hy1 rfl
  have y5 := blk_cell (j := 5) (v := .bool false) hy1 rfl
  have y6 := blk_cell (j := 6) (v := .string ⟨#[]⟩) hy1 rfl
  have y7 := blk_cell (j := 7) (v := .bool false) hy1 rfl
  clear hb1 hx1 hy1 HM HB0 HX0 HY0
  go_wp2_with fail
  refine (HJ.out _).mono ?_
  rintro e w2 ⟨rfl, hb2⟩
  have HB2 := Aside0.mk (below_then HB1.out HB1.out.size hb2)
  have hx2 := blk_below HX1.out hb2
  have hy2 := blk_below HY1.out hb2
  have HY2 := Aside0.mk hy2
  clear y0 y1 y2 y3 y4 y5 y6 y7
  have x0 := blk_cell (j := 0) (v := .int .i64 v) hx2 rfl
  have x1 := blk_cell (j := 1) (v := .slice (some ad) ts.length c) hx2 rfl
  have x2 := blk_cell (j := 2) (v := .int .i64 nx) hx2 rfl
  have y1 := blk_cell (j := 1) (v := .int .i64 6) hy2 rfl
  have y2 := blk_cell (j := 2) (v := .int .i64 table) hy2 rfl
  have y3 := blk_cell (j := 3) (v := .int .i64 elem) hy2 rfl
  have y4 := blk_cell (j := 4) (v := .int .i64 1) hy2 rfl
  clear hb2 hx2 hy2 HJ HB1 HX1 HY1
  go_wp2_with fail
  refine (HS.out _ HB2.out).mono ?_
  rintro e w3 ⟨rfl, hb3⟩
  have HB3 := Aside0.mk (below_then HB2.out HB2.out.size hb3)
  have hy3 := blk_below HY2.out hb3
  clear x0 x1 x2 y1 y2 y3 y4
  have y4 := blk_cell (j := 4) (v := .int .i64 1) hy3 rfl
  have y5 := blk_cell (j := 5) (v := .bool false) hy3 rfl
  clear hb3 hy3 HS HB2 HY2
  go_wp2
  go_ret2
  exact ⟨rfl, HB3.out⟩
end Go.Proofs.YtjgomlcdmpcoaaaDoor.H
namespace Go.Proofs.YtjgomlcdmpcoaaaDoor.H
open Go.RowKit Go.Proofs.YtjgomlcdmpcoaaaDoorW.PrintWords Go.Proofs.YtjgomlcdmpcoaaaDoorW.PrintLast Go.Proofs.YtjgomlcdmpcoaaaDoorW.PrintMore
open Go.Proofs.YtjgomlcdmpcoaaaDoor.D Go.Proofs.YtjgomlcdmpcoaaaDoor
set_option linter.unusedVariables false
set_option linter.unusedSimpArgs false
def xName (n : ByteArray) (x : S98) : Bool := decide (x.f1.toList = n.toList)
def idsOf (cols : List S75) : List ByteArray → Option (List Int)
  | [] => some []
  | n :: r => if idxL (cShown n) cols 0 < 0 then none else (idsOf cols r).map ((rd_T75 cols (idxL (cShown n) cols 0)).f0 :: ·)
def addIndexP (t : S70) (s : S45) : S70 × Int × Int :=
  if nameB s.f2 = false ∨ s.f3.length < 1 ∨ 8 < s.f3.length then (t, 0, 3)
  else if t.f3.any (xName s.f2) = true then (t, 0, 6)
  else if twiceB [] s.f3 = true then (t, 0, 6)
  else match idsOf t.f2 s.f3 with
    | none => (t, 0, 5)
    | some ids => if 4 ≤ t.f3.length ∨ 60000 ≤ t.f4 then (t, 0, 4) else (⟨t.f0, t.f1, t.f2, t.f3 ++ [⟨t.f4, s.f2, ids, s.f7, 1⟩], t.f4 + 1⟩, t.f4, 0)
structure AddSt (w2 wr : World) (n4 : Int) (nm_ : ByteArray) (uq : Bool) (iv : Value) (ids : List Int) : Prop where
  below : Below w2.heap.size w2 wr
  box : wr.heap[w2.heap.size]? = some (.cells #[.int .i64 n4, .string nm_, iv, .bool uq, .int .i64 1] 98 (0, 0))
  row : (Kd.int .i64).R 3 wr w2.heap.size (fun _ => True) iv ids
theorem AddSt.step {w2 wr W : World} {n4 : Int} {nm_ : ByteArray} {uq : Bool} {iv : Value} {ids : List Int} (h : AddSt w2 wr n4 nm_ uq iv ids) (hb : Below wr.heap.size wr W) : AddSt w2 W n4 nm_ uq iv ids :=
  ⟨below_then h.below h.below.size hb, blk_below h.box hb, Kd.R_below h.row hb⟩
theorem AddSt.new (w2 : World) (n4 : Int) (nm_ : ByteArray) (uq : Bool) : AddSt w2 (w2.alloc (.cells #[.int .i64 n4, .string nm_, .slice none 0 0, .bool uq, .int .i64 1] 98)).drew n4 nm_ uq (.slice none 0 0) [] :=
  ⟨below_drew (below_alloc (Below.refl _ _) _), heap_alloc_new w2 _, Kd.R_nil _ _ _ _ _⟩
theorem AddSt.next {w2 wr W W1 : World} {n4 : Int} {nm_ : ByteArray} {uq : Bool} {iv iv1 : Value} {ids : List Int} {x : Int} (h : AddSt w2 wr n4 nm_ uq iv ids) (hb : Below wr.heap.size wr W) (hg : W.grownBy W1 iv.ownBlock) (hr : (Kd.int .i64).R 3 W1 w2.heap.size (fun _ => True) iv1 (ids ++ [x])) :
    AddSt w2 (W1.setCell ⟨w2.heap.size, 2, none⟩ iv1) n4 nm_ uq iv1 (ids ++ [x]) := by
  have h' := h.step hb
  have hx := blk_grown h'.box hg (Kd.R_ne h'.row h'.box (by decide))
  refine ⟨Below.setCell (h'.below.grown hg h'.below.size (Kd.R_base h'.row)) (Nat.le_refl _) _, blk_put hx 2 _ rfl, Kd.R_set hr hx (by decide) 2 _⟩
set_option maxRecDepth 100000 in
set_option maxHeartbeats 4000000 in
theorem addIndex_upd : Upd 62 addIndexP := by
  intro w0 W g n cap ts i oki t cv iv s cs hB hL ht hs hok
  obtain ⟨A3, c3, A4, c4, A5, c5, A6, c6, A9, c9, rfl, l3, g3, -, -, -, -, -, -, -, -⟩ := k45_open hs
  obtain ⟨m2, m3, m4, m5⟩ := tableB_lens ht
  obtain ⟨Ai, ci, hiv⟩ := Kd.R_slice hL.inds
  obtain ⟨Ac, cc, hcv⟩ := Kd.R_slice hL.cols
  subst hiv hcv
  have HC := Aside0.mk g3
  have hl3 := hok.1
  obtain ⟨BX, hBX⟩ : ∃ b : Array Value, b = #[.int .i64 s.f0, .string s.f1, .string s.f2, .slice A3 s.f3.length c3, .slice A4 s.f4.length c4, .slice A5 s.f5.length c5, .slice A6 s.f6.length c6, .bool s.f7, .int .i64 s.f8, .slice A9 s.f9.length c9] := ⟨_, rfl⟩
  have HN := Lib.hid (fun w => rname_calls s.f2 w)
  have HI := Lib.hid (show addIndexP t s = _ by unfold addIndexP; exact rfl)
  have HU := Aside0.mk ((⟨hL, Tch.refl _ _, hB.size⟩ : UpdSt w0 W W g n cap ts i oki t (.slice Ac t.f2.length cc) (.slice Ai t.f3.length ci)).step (below_alloc (Below.refl _ _) (.cells #[.int .i64 s.f0, .string s.f1, .string s.f2, .slice A3 s.f3.length c3, .slice A4 s.f4.length c4, .slice A5 s.f5.length c5, .slice A6 s.f6.length c6, .bool s.f7, .int .i64 s.f8, .slice A9 s.f9.length c9] 45)))
  have HB := Aside0.mk hB
  have HB4 := Aside0.mk (show 1 ≤ t.f4 ∧ t.f4 ≤ 60000 by unfold tableB at ht; simp only [Bool.and_eq_true, decide_eq_true_eq] at ht; exact ⟨ht.1, ht.2.1⟩)
  clear hB hL g3 hs hok
  by_cases hnm : nameB s.f2 = false
  · have hR : addIndexP t s = (t, 0, 3) := by rw [HI.out, if_pos (.inl hnm)]
    rw [hR]
    rw [hnm] at HN
    clear hR hnm HI
    go_enter Tryd.func62, Tryd.ntmps62
    go_wp2_with (go_at_call 34; refine (HN.out _).mono ?_; rintro e w1 ⟨rfl, hb1⟩)
    go_ret2
    exact ⟨rfl, (HU.out.step hb1).done⟩
  have hnm' : nameB s.f2 = true := by simpa using hnm
  rw [hnm'] at HN
  by_cases hl1 : s.f3.length < 1
  · have hR : addIndexP t s = (t, 0, 3) := by rw [HI.out, if_pos (.inr (.inl hl1))]
    rw [hR]
    have hd : decide ((s.f3.length : Int) < 1) = true := decide_eq_true (by omega)
    clear hR hnm hnm' HI hl1
    go_enter Tryd.func62, Tryd.ntmps62
    go_wp2_with (go_at_call 34; refine (HN.out _).mono ?_; rintro e w1 ⟨rfl, hb1⟩; have hx1 := blk_below (heap_alloc_new W (.cells #[.int .i64 s.f0, .string s.f1, .string s.f2, .slice A3 s.f3.length c3, .slice A4 s.f4.length c4, .slice A5 s.f5.length c5, .slice A6 s.f6.length c6, .bool s.f7, .int .i64 s.f8, .slice A9 s.f9.length c9] 45)) hb1; have x3 := blk_cell (j := 3) (v := .slice A3 s.f3.length c3) hx1 rfl; clear hx1)
    go_ret2
    exact ⟨rfl, (HU.out.step hb1).done⟩
  have hd1 : decide ((s.f3.length : Int) < 1) = false := decide_eq_false (by omega)
  by_cases hl8 : 8 < s.f3.length
  · have hR : addIndexP t s = (t, 0, 3) := by rw [HI.out, if_pos (.inr (.inr hl8))]
    rw [hR]
    have hd : decide (8 < (s.f3.length : Int)) = true := decide_eq_true (by omega)
    clear hR hnm hnm' HI hl1 hl8
    go_enter Tryd.func62, Tryd.ntmps62
    go_wp2_with (go_at_call 34; refine (HN.out _).mono ?_; rintro e w1 ⟨rfl, hb1⟩; have hx1 := blk_below (heap_alloc_new W (.cells #[.int .i64 s.f0, .string s.f1, .string s.f2, .slice A3 s.f3.length c3, .slice A4 s.f4.length c4, .slice A5 s.f5.length c5, .slice A6 s.f6.length c6, .bool s.f7, .int .i64 s.f8, .slice A9 s.f9.length c9] 45)) hb1; have x3 := blk_cell (j := 3) (v := .slice A3 s.f3.length c3) hx1 rfl; clear hx1)
    go_ret2
    exact ⟨rfl, (HU.out.step hb1).done⟩
  have hd8 : decide (8 < (s.f3.length : Int)) = false := decide_eq_false (by omega)
  obtain ⟨T, id, er, hTR⟩ : ∃ T id er, addIndexP t s = (T, id, er) := ⟨_, _, _, rfl⟩
  rw [hTR]
  rw [hTR] at HI
  have HI2 := Lib.hid (HI.out.trans (if_neg (show ¬ (nameB s.f2 = false ∨ s.f3.length < 1 ∨ 8 < s.f3.length) from fun h => h.elim hnm (fun h => h.elim hl1 hl8))))
  have hlo : 1 ≤ s.f3.length := by omega
  have hhi : s.f3.length ≤ 8 := by omega
  clear HI hnm hnm' hl1 hl8 hTR
  go_enter Tryd.func62, Tryd.ntmps62
  go_wp2_with (go_at_call 34; refine (HN.out _).mono ?_; rintro e w1 ⟨rfl, hb1⟩; have hx1 := blk_below (heap_alloc_new W (.cells #[.int .i64 s.f0, .string s.f1, .string s.f2, .slice A3 s.f3.length c3, .slice A4 s.f4.length c4, .slice A5 s.f5.length c5, .slice A6 s.f6.length c6, .bool s.f7, .int .i64 s.f8, .slice A9 s.f9.length c9] 45)) hb1; have x3 := blk_cell (j := 3) (v := .slice A3 s.f3.length c3) hx1 rfl; have HX := Aside0.mk hx1; have HU1 := Aside0.mk (HU.out.step hb1); clear hx1 hb1)
  have HX1 := Aside0.mk (show w1.heap[W.heap.size]? = some (.cells BX 45 (0, 0)) by rw [hBX]; exact HX.out)
  clear HX HU x3 HN hd1 hd8
  go_loopg [6] t.f3.length (fun gg u6 wr => ∃ k : Nat, k ≤ t.f3.length ∧ t.f3.length - k ≤ gg ∧ u6 = .int .i64 k ∧ Aside0 (UpdSt w0 W wr g n cap ts i oki t (.slice Ac t.f2.length cc) (.slice Ai t.f3.length ci)) ∧ Aside0 (wr.heap[W.heap.size]? = some (.cells BX 45 (0, 0))) ∧ Aside0 (t.f3.any (xName s.f2) = (t.f3.drop k).any (xName s.f2)))
  case atStart => exact ⟨0, Nat.zero_le _, by omega, rfl, HU1, HX1, ⟨by rw [List.drop_zero]⟩⟩
  case round =>
    clear HU1 HX1
    obtain ⟨k, hk, hgk, rfl, HU, HX, HA⟩ := hrel
    have a3 := HU.out.lent.cell 3 rfl
    have x2 := blk_cell (j := 2) (v := .string s.f2) HX.out (by rw [hBX]; rfl)
    by_cases hlt : k < t.f3.length
    · have hltz : (k : Int) < (t.f3.length : Int) := by omega
      obtain ⟨-, -, hC⟩ := Kd.R_reads' HU.out.lent.inds
      obtain ⟨ae, A5', c5', eA5, e0, e1, e2, e3, e4, -, -⟩ := at_T98 hC (k : Int) (by omega) (by omega)
      have hx : rd_T98 t.f3 (k : Int) = t.f3[k] := rd98 _ _ hlt
      rw [hx] at e0 e1 e2 e3 e4
      simp only [Int.toNat_natCast] at e0 e1 e2 e3 e4
      cases eA5
      have hdr : t.f3.drop k = t.f3[k] :: t.f3.drop (k + 1) := List.drop_eq_getElem_cons hlt
      have hA := HA.out
      rw [hdr, List.any_cons] at hA
      generalize t.f3[k] = x at e0 e1 e2 e3 e4 hA
      clear hdr hx hC HA e0 e2 e3 e4
      by_cases hm : x.f1.toList = s.f2.toList
      · have hq : (x.f1.toList == s.f2.toList) = true := by simpa using hm
        have hxn : xName s.f2 x = true := decide_eq_true hm
        have HR := Lib.hid (show (T, id, er) = (t, 0, 6) by rw [HI2.out, hA, hxn, if_pos (by rfl)])
        clear hA hm hxn
        go_wp2_with fail
        go_quiet (fail)
        go_wp2
        go_ret2
        obtain ⟨rfl, rfl, rfl⟩ : T = t ∧ id = 0 ∧ er = 6 := by have := HR.out; simp only [Prod.mk.injEq] at this; exact this
        exact ⟨rfl, (HU.out.step (pw_below_drewN (Below.refl _ _) _)).done⟩
      · have hq : (x.f1.toList == s.f2.toList) = false := by simpa using hm
        have hxn : xName s.f2 x = false := decide_eq_false hm
        rw [hxn, Bool.false_or] at hA
        have HA := Aside0.mk hA
        clear hA hm hxn
        go_wp2_with fail
        go_quiet (fail)
        go_wp2
        go_roundg (t.f3.length - (k + 1))
        case measure => omega
        case rel => exact ⟨k + 1, by omega, by omega, by go_num, ⟨HU.out.step (pw_below_drewN (Below.refl _ _) _)⟩, ⟨blk_below HX.out (pw_below_drewN (Below.refl _ _) _)⟩, HA⟩
    · have hltz : ¬ (k : Int) < (t.f3.length : Int) := by omega
      have hA := HA.out
      rw [List.drop_eq_nil_of_le (by omega), List.any_nil] at hA
      have HI3 := Lib.hid (HI2.out.trans (by rw [hA, if_neg (by simp)]))
      have x3 := blk_cell (j := 3) (v := .slice A3 s.f3.length c3) HX.out (by rw [hBX]; rfl)
      clear hA HA HI2
      have hBW := Aside0.mk (HB.out.trans HU.out.tch.below)
      go_wp2_with fail
      cases htw : twiceB [] s.f3 with
      | true =>
        refine (rtwice_calls s.f3 (by omega) A3 c3 _ l3 (Kd.C_below HC.out hBW.out)).mono ?_
        rintro e w2 ⟨rfl, hb2⟩
        rw [htw]
        have HR := Lib.hid (show (T, id, er) = (t, 0, 6) by rw [HI3.out, htw, if_pos (by rfl)])
        clear htw
        go_wp2
        go_ret2
        obtain ⟨rfl, rfl, rfl⟩ : T = t ∧ id = 0 ∧ er = 6 := by have := HR.out; simp only [Prod.mk.injEq] at this; exact this
        exact ⟨rfl, (HU.out.step hb2).done⟩
      | false =>
        refine (rtwice_calls s.f3 (by omega) A3 c3 _ l3 (Kd.C_below HC.out hBW.out)).mono ?_
        rintro e w2 ⟨rfl, hb2⟩
        rw [htw]
        have HI4 := Lib.hid (HI3.out.trans (by rw [htw, if_neg (by simp)]))
        have HU2 := Aside0.mk (HU.out.step hb2)
        have HX2 := Aside0.mk (blk_below HX.out hb2)
        have a4 := HU2.out.lent.cell 4 rfl
        have y2 := blk_cell (j := 2) (v := .string s.f2) HX2.out (by rw [hBX]; rfl)
        have y7 := blk_cell (j := 7) (v := .bool s.f7) HX2.out (by rw [hBX]; rfl)
        have hq1 : W.heap.size < w2.heap.size := lt_of_block HX2.out
        obtain ⟨gcs, hgb⟩ := HU2.out.lent.blk
        have hq2 : g < w2.heap.size := lt_of_block hgb
        clear htw hb2 x2 x3 a3 HU HX HI3 hBW hgb
        go_wp2_with fail
        go_region
        go_wp2
        have HS0 := Aside0.mk (AddSt.new w2 t.f4 s.f2 s.f7)
        clear a4 y2 y7
        go_loopg [8] s.f3.length (fun gg u8 wr => ∃ j : Nat, ∃ iv : Value, ∃ ids : List Int, j ≤ s.f3.length ∧ s.f3.length - j ≤ gg ∧ u8 = .int .i64 j ∧ Aside0 (AddSt w2 wr t.f4 s.f2 s.f7 iv ids) ∧ Aside0 (ids.length = j) ∧ Aside0 (idsOf t.f2 s.f3 = (idsOf t.f2 (s.f3.drop j)).map (ids ++ ·)))
        case atStart => exact ⟨0, _, [], Nat.zero_le _, by omega, rfl, HS0, ⟨rfl⟩, ⟨by rw [List.drop_zero]; cases idsOf t.f2 s.f3 <;> rfl⟩⟩
        case round =>
          clear HS0
          obtain ⟨j, iv, ids, hj, hgj, rfl, HS, HJ, HA⟩ := hrel
          obtain ⟨Av, cw, hiv⟩ := Kd.R_slice HS.out.row
          rw [HJ.out] at hiv
          subst hiv
          have HU := Aside0.mk (HU2.out.step HS.out.below)
          have hXr := blk_below HX2.out HS.out.below
          have HX := Aside0.mk hXr
          have x3 := blk_cell (j := 3) (v := .slice A3 s.f3.length c3) hXr (by rw [hBX]; rfl)
          have a2 := HU.out.lent.cell 2 rfl
          clear hXr
          by_cases hlt : j < s.f3.length
          · have hltz : (j : Int) < (s.f3.length : Int) := by omega
            have HBW := Aside0.mk (HB.out.trans HU.out.tch.below)
            obtain ⟨a3', eA3, es⟩ := at_str (Kd.C_below HC.out HBW.out) j hlt
            cases eA3
            have hA := HA.out
            rw [List.drop_eq_getElem_cons hlt] at hA
            generalize s.f3[j] = nme at es hA
            obtain ⟨-, hcc, hC⟩ := Kd.R_reads' HU.out.lent.cols
            have HCC := Aside0.mk hC
            clear HA hC
            rcases idxL_at (cShown nme) t.f2 with hix | ⟨k', hk', hix, -⟩
            · have HR := Lib.hid (show (T, id, er) = (t, 0, 5) by rw [HI4.out, hA]; unfold idsOf; rw [hix]; rfl)
              have HQ := Lib.hid (fun W' (hb : Below wr.heap.size wr W') => rshown_calls t.f2 (by omega) nme Ac cc W' (by omega) (Kd.C_below HCC.out hb))
              rw [hix] at HQ
              clear hA hix
              go_wp2_with fail
              go_quiet ((go_at_call 117; exact Calls.quiet_of (HQ.out _ (pw_below_drewN (Below.refl _ _) _))))
              go_wp2
              go_ret2
              obtain ⟨rfl, rfl, rfl⟩ : T = t ∧ id = 0 ∧ er = 5 := by have := HR.out; simp only [Prod.mk.injEq] at this; exact this
              exact ⟨rfl, (HU.out.step (pw_below_drewN (Below.refl _ _) _)).done⟩
            · obtain ⟨ac, eA, h0, -⟩ := at_T75 HCC.out (k' : Int) (by omega) (by omega)
              have hkr := rd75 _ _ hk'
              have hA2 : idsOf t.f2 s.f3 = (idsOf t.f2 (s.f3.drop (j + 1))).map ((ids ++ [(rd_T75 t.f2 (k' : Int)).f0]) ++ ·) := by
                rw [hA]
                show (if idxL (cShown nme) t.f2 0 < 0 then none else (idsOf t.f2 (s.f3.drop (j + 1))).map ((rd_T75 t.f2 (idxL (cShown nme) t.f2 0)).f0 :: ·)).map (ids ++ ·) = _
                rw [hix, if_neg (by omega)]
                cases idsOf t.f2 (s.f3.drop (j + 1)) <;> simp
              have HQ := Lib.hid (fun W' (hb : Below wr.heap.size wr W') => rshown_calls t.f2 (by omega) nme Ac cc W' (by omega) (Kd.C_below HCC.out hb))
              rw [hix] at HQ
              have hk2 : (k' : Int) < (t.f2.length : Int) := by omega
              have hk0 : (0 : Int) ≤ (k' : Int) := by omega
              cases eA
              generalize (rd_T75 t.f2 (k' : Int)).f0 = ik at h0 hA2
              simp only [Int.toNat_natCast] at h0
              have HA := Aside0.mk hA2
              have HE0 := Aside0.mk h0
              clear hA hA2 hix hkr h0
              go_wp2_with fail
              go_quiet ((go_at_call 117; exact Calls.quiet_of (HQ.out _ (pw_below_drewN (Below.refl _ _) _))))
              rename_i nq
              have hbq : Below wr.heap.size wr (wr.drewN nq) := pw_below_drewN (Below.refl _ _) _
              have HSq := Aside0.mk (HS.out.step hbq)
              have hUq := HU.out.step hbq
              have hXq := blk_below HX.out hbq
              have e0 := pw_cell_below hbq HE0.out
              clear a2 x3 es HQ HE0 HS HU HX HCC
              generalize wr.drewN nq = wq at hbq HSq hUq hXq e0 ⊢
              have b2 := blk_cell (j := 2) (v := .slice Av j cw) HSq.out.box rfl
              have a2 := hUq.lent.cell 2 rfl
              have q1 : w2.heap.size < wq.heap.size := lt_of_block HSq.out.box
              have q2 : g < wq.heap.size := World.block_lt_of_cell? wq _ a2
              have q3 : (ac.add (k' * 9)).block < wq.heap.size := World.block_lt_of_cell? wq _ e0
              have HUq := Aside0.mk hUq
              have HXq := Aside0.mk hXq
              have HBQ := Aside0.mk hbq
              clear hUq hXq hbq
              go_wp2_with fail
              go_region_law
                ((refine step_R (Kd.int .i64) (by rfl) (.tmp 78) (.tmp 87) 40 3 (.int .i64 0) 8 (by rfl) Tryd.underlying40 info3 (by rfl) (by decide) (by decide) w2.heap.size (.slice Av j cw) ids ik [.int .i64 ik] (fun _ => True) (fun _ => False) (by rfl) (by repeat (first | exact HSq.out.row | refine Kd.R_drew ?_ | refine Kd.R_alloc ?_ _)) ⟨wq.heap.size, 0, none⟩ (by rfl) (World.news_of_block (cs := #[_]) (t := 3) (fr := (0, 0)) (heap_alloc_new wq _)) rfl (fun _ h => h.elim) (fun _ _ => trivial) (by simp; omega) (by rw [HJ.out]; omega) ?_; intro A1 c1 w1 hr hg1; have hx1 := (hg1.block w2.heap.size (Nat.lt_of_lt_of_le q1 (by simp)) (Kd.R_ne HSq.out.row HSq.out.box (by decide))).trans (blk_alloc HSq.out.box (.cells #[.int .i64 ik] 3)); have d1 := blk_cell (j := 2) (v := .slice Av j cw) hx1 rfl; have f1 := blk_frozen hx1 2))
              all_goals
                have hst := HSq.out.next (below_drew (below_alloc (Below.refl _ _) _)) hg1 hr
                have HN2 := Aside0.mk hst
                clear hst hr hg1 hx1 d1 f1 e0 b2 a2
                go_wp2
                go_roundg (s.f3.length - (j + 1))
                case measure => omega
                case rel => exact ⟨j + 1, _, ids ++ [ik], by omega, by omega, by go_num, HN2, ⟨by rw [List.length_append, HJ.out]; rfl⟩, HA⟩
          · have hltz : ¬ (j : Int) < (s.f3.length : Int) := by omega
            have hA := HA.out
            rw [List.drop_eq_nil_of_le (by omega)] at hA
            have hA2 : idsOf t.f2 s.f3 = some ids := by rw [hA]; simp [idsOf]
            have HI5 := Lib.hid (HI4.out.trans (by rw [hA2]))
            have a3 := HU.out.lent.cell 3 rfl
            have a4 := HU.out.lent.cell 4 rfl
            clear hA hA2 HA HI4 a2
            by_cases h4 : 4 ≤ t.f3.length
            · have hd : decide ((4 : Int) ≤ (t.f3.length : Int)) = true := decide_eq_true (by omega)
              have HR := Lib.hid (show (T, id, er) = (t, 0, 4) by rw [HI5.out]; exact if_pos (.inl h4))
              clear h4
              go_wp2
              go_ret2
              obtain ⟨rfl, rfl, rfl⟩ : T = t ∧ id = 0 ∧ er = 4 := by have := HR.out; simp only [Prod.mk.injEq] at this; exact this
              exact ⟨rfl, HU.out.done⟩
            · have hd : decide ((4 : Int) ≤ (t.f3.length : Int)) = false := decide_eq_false (by omega)
              by_cases h6 : 60000 ≤ t.f4
              · have HR := Lib.hid (show (T, id, er) = (t, 0, 4) by rw [HI5.out]; exact if_pos (.inr h6))
                have hd6 : decide (60000 ≤ t.f4) = true := decide_eq_true h6
                clear h4 h6
                go_wp2
                go_ret2
                obtain ⟨rfl, rfl, rfl⟩ : T = t ∧ id = 0 ∧ er = 4 := by have := HR.out; simp only [Prod.mk.injEq] at this; exact this
                exact ⟨rfl, HU.out.done⟩
              · have HI6 := Lib.hid (HI5.out.trans (if_neg (show ¬ (4 ≤ t.f3.length ∨ 60000 ≤ t.f4) by omega)))
                have hd6 : decide (60000 ≤ t.f4) = false := decide_eq_false h6
                have hn0 := HB4.out
                have f4 := HU.out.lent.frozen (i * 5 + 4)
                have hUn := HU.out.setN (t.f4 + 1) rfl
                obtain ⟨gc', hgb'⟩ := HU.out.lent.blk
                have hne : w2.heap.size ≠ g := by omega
                have hxn := blk_far HS.out.box (p := ⟨g, i * 5 + 4, none⟩) hne (.int .i64 (t.f4 + 1))
                have hrn := Kd.R_set HS.out.row hgb' (by decide) (i * 5 + 4) (.int .i64 (t.f4 + 1))
                have hzn : w2.heap.size < (wr.setCell ⟨g, i * 5 + 4, none⟩ (.int .i64 (t.f4 + 1))).heap.size := lt_of_block hxn
                have hgn : g < (wr.setCell ⟨g, i * 5 + 4, none⟩ (.int .i64 (t.f4 + 1))).heap.size := by have := lt_of_block hgb'; simpa [World.setCell] using this
                clear HI5 h4 h6
                go_wp2_with fail
                clear f4 a3 a4 x3 hd hd6 hgb'
                generalize wr.setCell ⟨g, i * 5 + 4, none⟩ (.int .i64 (t.f4 + 1)) = wn at hUn hxn hrn hzn hgn ⊢
                have a3 := hUn.lent.cell 3 rfl
                have x0 := blk_cell (j := 0) (v := .int .i64 t.f4) hxn rfl
                have x1 := blk_cell (j := 1) (v := .string s.f2) hxn rfl
                have x2 := blk_cell (j := 2) (v := .slice Av j cw) hxn rfl
                have x3 := blk_cell (j := 3) (v := .bool s.f7) hxn rfl
                have x4 := blk_cell (j := 4) (v := .int .i64 1) hxn rfl
                have HUn := Aside0.mk hUn
                have HXn := Aside0.mk hxn
                have HRn := Aside0.mk hrn
                have HM := Aside0.mk (k98_mkM wn w0.heap.size (fun k => w2.heap.size ≤ k) ⟨t.f4, s.f2, ids, s.f7, 1⟩ (Kd.R_lower (Kd.R_mono (Kd.R_bound hrn) (fun k hk => hk.2.1)) (Nat.le_trans HU2.out.base HU2.out.tch.size)))
                have HBZ := Aside0.mk (Nat.le_trans hUn.base hUn.tch.size)
                clear hUn hxn hrn
                go_region_law
                  ((refine step_R k98 (by rfl) (.tmp 114) (.tmp 116) 68 98 (.agg #[(.int .i64 0), (.string ⟨#[]⟩), (.slice none 0 0), (.bool false), (.int .i64 0)]) 64 (by rfl) Tryd.underlying68 info98 (by rfl) (by decide) (by decide) w0.heap.size (.slice Ai t.f3.length ci) t.f3 (⟨t.f4, s.f2, ids, s.f7, 1⟩ : S98) [.int .i64 t.f4, .string s.f2, .slice Av j cw, .bool s.f7, .int .i64 1] oki (fun k => w2.heap.size ≤ k) (by rfl) (by repeat (first | exact HUn.out.lent.inds | refine Kd.R_drew ?_ | refine Kd.R_alloc ?_ _)) ⟨wn.heap.size, 0, none⟩ (by rfl) (World.news_of_block (cs := #[_, _, _, _, _]) (t := 98) (fr := (0, 0)) (heap_alloc_new wn _)) (by repeat (first | exact HM.out | refine k98.M_below ?_ (below_drew (Below.refl _ _)) | refine k98.M_below ?_ (below_alloc (Below.refl _ _) _))) (fun k hk => ⟨HU2.out.lent.fresh k hk, fun he => Nat.not_lt_of_le hk (Kd.R_lt HU2.out.lent.inds k he.symm)⟩) (fun k hk => HUn.out.lent.fresh k (Nat.le_trans (by simp) hk)) (Nat.le_trans HBZ.out (by simp)) (by omega) ?_; intro A1 c1 w1 hr hg1; have hx1 : w1.heap[g]? = wn.heap[g]? := (hg1.block g (Nat.lt_of_lt_of_le hgn (by simp)) (fun e => HUn.out.lent.oki_ne g (HUn.out.lent.inds.1 g e.symm) rfl)).trans (heap_alloc_old wn _ hgn); have d1 := (cell_same (a := ⟨g, i * 5 + 3, none⟩) hx1).trans a3; have f1 := (frozen_same (a := ⟨g, i * 5 + 3, none⟩) hx1).trans (HUn.out.lent.frozen _); have hy1 := (hg1.block w2.heap.size (Nat.lt_of_lt_of_le hzn (by simp)) (fun he => Nat.lt_irrefl _ (Kd.R_lt HU2.out.lent.inds w2.heap.size he.symm))).trans (blk_alloc HXn.out _); have d0 := blk_cell (j := 0) (v := .int .i64 t.f4) hy1 rfl))
                all_goals
                  have HF := Aside0.mk ((HUn.out.step (below_drew (below_alloc (Below.refl _ _) _))).setI hg1 hr rfl)
                  clear hr hg1 hx1 hy1 a3 x0 x1 x2 x3 x4
                  go_wp2
                  go_ret2
                  obtain ⟨rfl, rfl, rfl⟩ : T = _ ∧ id = t.f4 ∧ er = 0 := by have := HI6.out; simp only [Prod.mk.injEq] at this; exact this
                  exact ⟨rfl, HF.out.done⟩
end Go.Proofs.YtjgomlcdmpcoaaaDoor.H
namespace Go.Proofs.YtjgomlcdmpcoaaaDoor.H
open Go.RowKit Go.Proofs.YtjgomlcdmpcoaaaDoorW.PrintWords Go.Proofs.YtjgomlcdmpcoaaaDoorW.PrintLast Go.Proofs.YtjgomlcdmpcoaaaDoorW.PrintMore
open Go.Proofs.YtjgomlcdmpcoaaaDoor.D Go.Proofs.YtjgomlcdmpcoaaaDoor
set_option linter.unusedVariables false
set_option linter.unusedSimpArgs false
theorem C_strs {w : World} {b : Nat} {t : TypeId} {l : List ByteArray} (h : w.heap[b]? = some (.cells (l.map Value.string).toArray t (0, 0))) (hl : l.length ≤ 1000) : Kd.string.C w (some ⟨b, 0, none⟩) l.length l := by
  refine ⟨rfl, by omega, fun _ => ⟨_, rfl, fun j p hj => ⟨[.string p], rfl, rfl, fun i u hu => ?_⟩⟩⟩
  have hi : i = 0 := by have := (List.getElem?_eq_some_iff.1 hu).1; simp at this; omega
  subst hi
  have hu' : u = .string p := by simpa using hu.symm
  subst hu'
  rw [show (Kd.string.sz) = 1 from rfl, Nat.mul_one, Nat.add_zero, show (⟨b, 0, none⟩ : Addr).add j = ⟨b, j, none⟩ by unfold Addr.add; by_cases hj : j = 0 <;> simp [hj]]
  exact blk_cell h (by simp [hj])
theorem C_ints {w : World} {b : Nat} {t : TypeId} {l : List Int} (h : w.heap[b]? = some (.cells (l.map (Value.int .i64)).toArray t (0, 0))) (hl : l.length ≤ 1000) : (Kd.int .i64).C w (some ⟨b, 0, none⟩) l.length l := by
  refine ⟨rfl, by omega, fun _ => ⟨_, rfl, fun j p hj => ⟨[.int .i64 p], rfl, rfl, fun i u hu => ?_⟩⟩⟩
  have hi : i = 0 := by have := (List.getElem?_eq_some_iff.1 hu).1; simp at this; omega
  subst hi
  have hu' : u = .int .i64 p := by simpa using hu.symm
  subst hu'
  rw [show ((Kd.int .i64).sz) = 1 from rfl, Nat.mul_one, Nat.add_zero, show (⟨b, 0, none⟩ : Addr).add j = ⟨b, j, none⟩ by unfold Addr.add; by_cases hj : j = 0 <;> simp [hj]]
  exact blk_cell h (by simp [hj])
def tA : S75 := ⟨1, ⟨#[97]⟩, 2, 4, 4, z73⟩
def tB : S75 := ⟨2, ⟨#[98]⟩, 5, 4, 0, z73⟩
def tT (ix : List S98) (n : Int) : S70 := ⟨1, ⟨#[116]⟩, [tA, tB], ix, n⟩
def sT : S45 := ⟨5, ⟨#[116]⟩, ⟨#[]⟩, [⟨#[97]⟩, ⟨#[98]⟩], [], [], [], false, 0, [2, 5]⟩
def sI : S45 := ⟨6, ⟨#[116]⟩, ⟨#[105]⟩, [⟨#[98]⟩], [], [], [], false, 0, []⟩
def xI (st : Int) : S98 := ⟨3, ⟨#[105]⟩, [2], false, st⟩
theorem awake_create : createP 0 [] 0 sT = ⟨1, [tT [] 3], 2, 0, 0, 0⟩ := by kernel_rfl
theorem awake_begin : beginP addIndexP 1 [tT [] 3] 2 sI = ⟨2, [tT [xI 1] 4], 2, 1, 3, 0⟩ := by kernel_rfl
theorem awake_step : stepP 2 [tT [xI 1] 4] 2 6 1 3 true = ⟨3, [tT [xI 2] 4], 2, 0, 0, 0⟩ := by kernel_rfl
theorem awake_sch : schB 3 [tT [xI 2] 4] 2 = true := by kernel_rfl
theorem awake_job : jobB 1 6 1 3 1 ⟨#[]⟩ false = true := by kernel_rfl
theorem awake_wf (ix : List S98) (n : Int) (h : ∀ x ∈ ix, IndWf x) : ∀ t ∈ [tT ix n], TabWf t := by
  intro t ht
  rw [List.mem_singleton.1 ht]
  refine ⟨by show (1 : Nat) ≤ maxLen; decide, fun c hc => ?_, h⟩
  rcases List.mem_cons.1 hc with rfl | hc
  · exact ⟨by decide, by decide, by decide, by decide, by decide⟩
  · rw [List.mem_singleton.1 hc]
    exact ⟨by decide, by decide, by decide, by decide, by decide⟩
theorem sT_K (w : World) : k45.K ((w.alloc (.cells #[.string ⟨#[97]⟩, .string ⟨#[98]⟩] 9)).alloc (.cells #[.int .i64 2, .int .i64 5] 3)) sT [.int .i64 5, .string ⟨#[116]⟩, .string ⟨#[]⟩, .slice (some ⟨w.heap.size, 0, none⟩) 2 2, .slice none 0 0, .slice none 0 0, .slice none 0 0, .bool false, .int .i64 0, .slice (some ⟨w.heap.size + 1, 0, none⟩) 2 2] := by
  have h1 := blk_alloc (heap_alloc_new w (.cells #[.string ⟨#[97]⟩, .string ⟨#[98]⟩] 9)) (.cells #[.int .i64 2, .int .i64 5] 3)
  have h2 := heap_alloc_new (w.alloc (.cells #[.string ⟨#[97]⟩, .string ⟨#[98]⟩] 9)) (.cells #[.int .i64 2, .int .i64 5] 3)
  rw [show (w.alloc (.cells #[.string ⟨#[97]⟩, .string ⟨#[98]⟩] 9)).heap.size = w.heap.size + 1 by simp] at h2
  exact k45_mk _ sT (Nat.le_refl _) (C_strs (l := [⟨#[97]⟩, ⟨#[98]⟩]) h1 (by decide)) (Nat.le_refl _) (nil_C _ _) (Nat.le_refl _) (nil_C _ _) (Nat.le_refl _) (nil_C _ _) (Nat.le_refl _) (C_ints (l := [2, 5]) h2 (by decide))
theorem sI_K (w : World) : k45.K (w.alloc (.cells #[.string ⟨#[98]⟩] 9)) sI [.int .i64 6, .string ⟨#[116]⟩, .string ⟨#[105]⟩, .slice (some ⟨w.heap.size, 0, none⟩) 1 1, .slice none 0 0, .slice none 0 0, .slice none 0 0, .bool false, .int .i64 0, .slice none 0 0] :=
  k45_mk _ sI (Nat.le_refl _) (C_strs (l := [⟨#[98]⟩]) (heap_alloc_new w (.cells #[.string ⟨#[98]⟩] 9)) (by decide)) (Nat.le_refl _) (nil_C _ _) (Nat.le_refl _) (nil_C _ _) (Nat.le_refl _) (nil_C _ _) (Nat.le_refl _) (nil_C _ _)
theorem sT_ok : StmtOk sT := ⟨by decide, by decide, by decide, by decide, by decide, fun x hx => by cases hx⟩
theorem sI_ok : StmtOk sI := ⟨by decide, by decide, by decide, by decide, by decide, fun x hx => by cases hx⟩
theorem awake_val (ix : List S98) (n : Int) : ∀ t ∈ [tT ix n], ∀ c ∈ t.f2, ValWf c.f5 := by
  intro t ht c hc
  rw [List.mem_singleton.1 ht] at hc
  rcases List.mem_cons.1 hc with rfl | hc
  · exact ⟨by decide, by decide⟩
  · rw [List.mem_singleton.1 hc]
    exact ⟨by decide, by decide⟩
theorem xI_wf (st : Int) : ∀ x ∈ [xI st], IndWf x := by
  intro x hx
  rw [List.mem_singleton.1 hx]
  exact ⟨show (-9223372036854775808 : Int) ≤ 3 by decide, show (3 : Int) < 9223372036854775808 by decide, show (1 : Nat) ≤ maxLen by decide⟩
set_option maxHeartbeats 1000000 in
theorem num24_calls (n : Int) (w : World) : Calls Tryd.prog 28 #[.int .i64 n] w fun e w' => e = .returned (.int .i64 n) ∧ w = w' := by
  go_enter Tryd.func28, Tryd.ntmps28
  go_wp2
  go_ret
  exact ⟨rfl, rfl⟩
set_option maxRecDepth 100000 in
set_option maxHeartbeats 4000000 in
theorem awake24_calls (w : World) (hG : GL w) : Calls Tryd.prog 24 #[] w fun e w' => e = .returned (.bool true) ∧ Below w.heap.size w w' := by
  obtain ⟨w0, hw0⟩ : ∃ w0, w0 = (w.alloc (.cells #[.string ⟨#[97]⟩, .string ⟨#[98]⟩] 9)).alloc (.cells #[.int .i64 2, .int .i64 5] 3) := ⟨_, rfl⟩
  have hb0 : Below w.heap.size w w0 := by rw [hw0]; exact below_alloc (below_alloc (Below.refl _ _) _) _
  have hk := sT_K w
  rw [← hw0] at hk
  have H1 := Lib.hid (create_calls 0 [] 0 sT (by decide) (fun t ht => by cases ht) none 0 w0 (Nat.le_refl _) (nil_C _ _) _ hk sT_ok)
  rw [awake_create, hw0] at H1
  rw [hw0] at hb0
  have HB0 := Aside0.mk hb0
  have HG := Aside0.mk hG
  clear hk hb0 hG hw0
  go_enter Tryd.func24, Tryd.ntmps24
  go_wp2_with fail
  refine H1.out.mono ?_
  rintro e w1 ⟨A1, c1, he, r1, hb1⟩
  have he' : e = .returned (.tuple #[.agg #[.int .i64 1, .slice A1 1 c1, .int .i64 2], .int .i64 0]) := he
  subst he'
  have r1' : k70.R 70 w1 _ (fun _ => True) (.slice A1 1 c1) [tT [] 3] := r1
  obtain ⟨-, l1', g1'⟩ := Kd.R_reads' r1'
  have HB1 := Aside0.mk (below_then HB0.out (by simp; omega) hb1)
  have HX1 := Aside0.mk (blk_alloc (heap_alloc_new w1 (.cells #[.int .i64 1, .slice A1 1 c1, .int .i64 2] 28)) (.cells #[.string ⟨#[98]⟩] 9))
  have hb2 := below_alloc (Below.refl _ w1) (.cells #[.int .i64 1, .slice A1 1 c1, .int .i64 2] 28)
  have hb3 := below_alloc hb2 (.cells #[.string ⟨#[98]⟩] 9)
  have HB3 := Aside0.mk (below_then HB1.out HB1.out.size hb3)
  have H2 := Lib.hid (begin_of 62 addIndexP addIndex_upd 1 [tT [] 3] 2 sI (.inl ⟨rfl, rfl⟩) (by decide) (awake_val _ _) A1 c1 _ l1' (Kd.C_below g1' hb3) _ (sI_K (w1.alloc (.cells #[.int .i64 1, .slice A1 1 c1, .int .i64 2] 28))) sI_ok)
  rw [awake_begin, show (w1.alloc (.cells #[.int .i64 1, .slice A1 1 c1, .int .i64 2] 28)).heap.size = w1.heap.size + 1 by simp] at H2
  clear he r1 r1' hb1 g1' hb2 hb3 H1 HB0
  go_wp2_with fail
  refine H2.out.mono ?_
  rintro e w2 ⟨A2, c2, he, r2, hb2⟩
  have he' : e = .returned (.tuple #[.agg #[.int .i64 2, .slice A2 1 c2, .int .i64 2], .int .i64 1, .int .i64 3, .int .i64 0]) := he
  subst he'
  have r2' : k70.R 70 w2 _ (fun _ => True) (.slice A2 1 c2) [tT [xI 1] 4] := r2
  have HB4 := Aside0.mk (below_then HB3.out HB3.out.size hb2)
  have hx2 := blk_below HX1.out hb2
  have a0 := blk_cell (j := 0) (v := .int .i64 1) hx2 rfl
  have a1 := blk_cell (j := 1) (v := .slice A1 1 c1) hx2 rfl
  have a2 := blk_cell (j := 2) (v := .int .i64 2) hx2 rfl
  have f0 := blk_frozen hx2 0
  have f1 := blk_frozen hx2 1
  have f2 := blk_frozen hx2 2
  have HR2 := Aside0.mk (R_set3 (a := .int .i64 2) (b := .slice A2 1 c2) (c := .int .i64 2) r2' hx2)
  obtain ⟨wy, hwy⟩ : ∃ wy, wy = ((w2.setCell ⟨w1.heap.size, 0, none⟩ (.int .i64 2)).setCell ⟨w1.heap.size, 1, none⟩ (.slice A2 1 c2)).setCell ⟨w1.heap.size, 2, none⟩ (.int .i64 2) := ⟨_, rfl⟩
  have hy : wy.heap[w1.heap.size]? = some (.cells #[.int .i64 2, .slice A2 1 c2, .int .i64 2] 28 (0, 0)) := by rw [hwy]; exact blk_put (blk_put (blk_put hx2 0 _ rfl) 1 _ rfl) 2 _ rfl
  obtain ⟨-, l2', g2'⟩ := Kd.R_reads' HR2.out
  rw [← hwy] at g2'
  have HWY := Lib.hid hwy
  have HY := Aside0.mk hy
  have hby : Below w.heap.size w wy := by
    rw [hwy]
    exact ((HB4.out.setCell (show w.heap.size ≤ w1.heap.size from HB1.out.size) _).setCell (show w.heap.size ≤ w1.heap.size from HB1.out.size) _).setCell (show w.heap.size ≤ w1.heap.size from HB1.out.size) _
  have HBY := Aside0.mk hby
  have H3 := Lib.hid (step6_calls 2 [tT [xI 1] 4] 2 1 3 (by decide) (awake_val _ _) A2 c2 wy l2' g2')
  rw [awake_step] at H3
  clear he r2 r2' H2 HX1 HB3 HR2 hwy g2' hby
  go_wp2_with fail
  rw [← HWY.out]
  refine H3.out.mono ?_
  rintro e w3 ⟨A3, c3, he, r3, hb5⟩
  have he' : e = .returned (.tuple #[.agg #[.int .i64 3, .slice A3 1 c3, .int .i64 2], .int .i64 0]) := he
  subst he'
  have r3' : k70.R 70 w3 _ (fun _ => True) (.slice A3 1 c3) [tT [xI 2] 4] := r3
  have HB5 := Aside0.mk (below_then HBY.out HBY.out.size hb5)
  have hx3 := blk_below HY.out hb5
  have a0 := blk_cell (j := 0) (v := .int .i64 2) hx3 rfl
  have a1 := blk_cell (j := 1) (v := .slice A2 1 c2) hx3 rfl
  have a2 := blk_cell (j := 2) (v := .int .i64 2) hx3 rfl
  have f0 := blk_frozen hx3 0
  have f1 := blk_frozen hx3 1
  have f2 := blk_frozen hx3 2
  have HR3 := Aside0.mk (R_set3 (a := .int .i64 3) (b := .slice A3 1 c3) (c := .int .i64 2) r3' hx3)
  obtain ⟨wz, hwz⟩ : ∃ wz, wz = ((w3.setCell ⟨w1.heap.size, 0, none⟩ (.int .i64 3)).setCell ⟨w1.heap.size, 1, none⟩ (.slice A3 1 c3)).setCell ⟨w1.heap.size, 2, none⟩ (.int .i64 2) := ⟨_, rfl⟩
  have hz : wz.heap[w1.heap.size]? = some (.cells #[.int .i64 3, .slice A3 1 c3, .int .i64 2] 28 (0, 0)) := by rw [hwz]; exact blk_put (blk_put (blk_put hx3 0 _ rfl) 1 _ rfl) 2 _ rfl
  obtain ⟨-, l3', g3'⟩ := Kd.R_reads' HR3.out
  rw [← hwz] at g3'
  have hbz : Below w.heap.size w wz := by
    rw [hwz]
    exact ((HB5.out.setCell (show w.heap.size ≤ w1.heap.size from HB1.out.size) _).setCell (show w.heap.size ≤ w1.heap.size from HB1.out.size) _).setCell (show w.heap.size ≤ w1.heap.size from HB1.out.size) _
  have HWZ := Lib.hid hwz
  have HZ := Aside0.mk hz
  have HBZ := Aside0.mk hbz
  have HG3 := Aside0.mk g3'
  obtain ⟨ad, rfl⟩ : ∃ ad, A3 = some ad := by obtain ⟨ad, h, -⟩ := g3'.2.2 (by decide); exact ⟨ad, h⟩
  have H4 := Lib.hid (next_fill 3 2 [tT [xI 2] 4] (awake_wf _ _ (xI_wf _)) ad c3 0 0 1 3 wz (HG.out.of_below hbz) g3' awake_sch awake_job (by rfl) (by decide) (by rfl) (by decide) (by rfl))
  clear he r3 r3' H3 HB4 HY HR3 hwz g3' hbz HWY HBY hy
  go_wp2_with fail
  rw [← HWZ.out]
  refine H4.out.mono ?_
  rintro e w4 ⟨he, hb6⟩
  subst he
  have HB6 := Aside0.mk (below_then HBZ.out HBZ.out.size hb6)
  have H5 := Lib.hid (num24_calls 0 w4)
  clear hb6 H4
  go_wp2_with fail
  refine H5.out.mono ?_
  rintro e w5 ⟨he, rfl⟩
  subst he
  go_wp2_with fail
  go_ret
  exact ⟨rfl, HB6.out⟩
end Go.Proofs.YtjgomlcdmpcoaaaDoor.H
namespace Go.Proofs.YtjgomlcdmpcoaaaDoor.H
open Go.RowKit Go.Proofs.YtjgomlcdmpcoaaaDoorW.PrintWords Go.Proofs.YtjgomlcdmpcoaaaDoorW.PrintLast Go.Proofs.YtjgomlcdmpcoaaaDoorW.PrintMore
open Go.Proofs.YtjgomlcdmpcoaaaDoor.D Go.Proofs.YtjgomlcdmpcoaaaDoor
set_option linter.unusedVariables false
set_option linter.unusedSimpArgs false
def tC (st : Int) : S75 := ⟨3, ⟨#[99]⟩, 2, st, 0, z73⟩
def tN (st : Int) : S75 := ⟨2, ⟨#[98]⟩, 5, 4, st, z73⟩
def tabE (kind st : Int) : S70 :=
  if kind = 6 then tT (if st = 0 then [] else [xI st]) 4
  else if kind = 8 then ⟨1, ⟨#[116]⟩, (if st = 0 then [tA, tB] else [tA, tB, tC st]), [], 4⟩
  else ⟨1, ⟨#[116]⟩, [tA, tN st], [], 3⟩
def elE (kind : Int) : Int := if kind = 10 then 2 else 3
def sC : S45 := ⟨8, ⟨#[116]⟩, ⟨#[99]⟩, [], [], [], [], false, 2, []⟩
def sN : S45 := ⟨10, ⟨#[116]⟩, ⟨#[98]⟩, [], [], [], [], false, 0, []⟩
theorem sC_ok : StmtOk sC := ⟨by decide, by decide, by decide, by decide, by decide, fun x hx => by cases hx⟩
theorem sN_ok : StmtOk sN := ⟨by decide, by decide, by decide, by decide, by decide, fun x hx => by cases hx⟩
theorem begin6 : beginP addIndexP 1 [tT [] 3] 2 sI = ⟨2, [tabE 6 1], 2, 1, 3, 0⟩ := by kernel_rfl
theorem begin8 : beginP addColP 1 [tT [] 3] 2 sC = ⟨2, [tabE 8 1], 2, 1, 3, 0⟩ := by kernel_rfl
theorem begin10 : beginP dropP 1 [tT [] 3] 2 sN = ⟨2, [tabE 10 1], 2, 1, 2, 0⟩ := by kernel_rfl
def KE (kind : Int) : Prop := kind = 6 ∨ kind = 8 ∨ kind = 10
theorem tabs_E {kind st : Int} (hk : KE kind) (hs : 0 ≤ st ∧ st ≤ 4) : tabsB 2 0 [] [tabE kind st] = true := by
  have h5 : st = 0 ∨ st = 1 ∨ st = 2 ∨ st = 3 ∨ st = 4 := by omega
  rcases hk with rfl | rfl | rfl <;> rcases h5 with rfl | rfl | rfl | rfl | rfl <;> (show _ = _; kernel_rfl)
theorem sch_E {kind st v : Int} (hk : KE kind) (hs : 0 ≤ st ∧ st ≤ 4) (hv : 0 ≤ v ∧ v < 1000) : schB v [tabE kind st] 2 = true := by
  unfold schB
  rw [tabs_E hk hs, decide_eq_true hv.1, decide_eq_true (show v < 1099511627776 by omega)]
  rfl
theorem idx_E {kind st : Int} (hk : KE kind) (hs : 0 ≤ st ∧ st ≤ 4) : idxL (tId 1) [tabE kind st] 0 = 0 := by
  have h5 : st = 0 ∨ st = 1 ∨ st = 2 ∨ st = 3 ∨ st = 4 := by omega
  rcases hk with rfl | rfl | rfl <;> rcases h5 with rfl | rfl | rfl | rfl | rfl <;> (show _ = _; kernel_rfl)
theorem elem_E {kind st : Int} (hk : KE kind) (hs : 1 ≤ st ∧ st ≤ 4) : elemI (tabE kind st) kind (elE kind) = st := by
  have h5 : st = 1 ∨ st = 2 ∨ st = 3 ∨ st = 4 := by omega
  rcases hk with rfl | rfl | rfl <;> rcases h5 with rfl | rfl | rfl | rfl <;> (show _ = _; kernel_rfl)
theorem elem_E0 {kind : Int} (hk : KE kind) : elemI (tabE kind 0) kind (elE kind) ≤ 0 := by
  rcases hk with rfl | rfl | rfl
  · exact show (-1 : Int) ≤ 0 by decide
  · exact show (-1 : Int) ≤ 0 by decide
  · exact show (0 : Int) ≤ 0 by decide
theorem state_eq {kind st v : Int} (hk : KE kind) (hs : 0 ≤ st ∧ st ≤ 4) (hv : 0 ≤ v ∧ v < 1000) : stateI v [tabE kind st] 2 kind 1 (elE kind) = elemI (tabE kind st) kind (elE kind) := by
  unfold stateI
  rw [idx_E hk hs, if_pos (by decide), if_pos (sch_E hk hs hv)]
  rfl
theorem state_E {kind st v : Int} (hk : KE kind) (hs : 1 ≤ st ∧ st ≤ 4) (hv : 0 ≤ v ∧ v < 1000) : stateI v [tabE kind st] 2 kind 1 (elE kind) = st := by
  rw [state_eq hk ⟨by omega, hs.2⟩ hv, elem_E hk hs]
theorem state_E0 {kind v : Int} (hk : KE kind) (hv : 0 ≤ v ∧ v < 1000) : stateI v [tabE kind 0] 2 kind 1 (elE kind) ≤ 0 := by
  rw [state_eq hk ⟨by decide, by decide⟩ hv]; exact elem_E0 hk
theorem turn_up {kind st : Int} (hk : KE kind) (hs : 1 ≤ st ∧ st ≤ 3) : turnP (tabE kind st) kind (elE kind) 1 = tabE kind (st + 1) := by
  have h5 : st = 1 ∨ st = 2 ∨ st = 3 := by omega
  rcases hk with rfl | rfl | rfl <;> rcases h5 with rfl | rfl | rfl <;> (show _ = _; kernel_rfl)
theorem turn_dn {kind st : Int} (hk : KE kind) (hs : 1 ≤ st ∧ st ≤ 4) : turnP (tabE kind st) kind (elE kind) (-1) = tabE kind (st - 1) := by
  have h5 : st = 1 ∨ st = 2 ∨ st = 3 ∨ st = 4 := by omega
  rcases hk with rfl | rfl | rfl <;> rcases h5 with rfl | rfl | rfl | rfl <;> (show _ = _; kernel_rfl)
theorem col_E {kind st : Int} (hk : KE kind) (hs : 1 ≤ st ∧ st ≤ 4) : ¬ (8 ≤ kind ∧ idxL (cId (elE kind)) (tabE kind st).f2 0 = 0) := by
  have h5 : st = 1 ∨ st = 2 ∨ st = 3 ∨ st = 4 := by omega
  rcases hk with rfl | rfl | rfl
  · rintro ⟨h, -⟩; exact absurd h (by decide)
  · rcases h5 with rfl | rfl | rfl | rfl <;> exact fun h => absurd h.2 (by decide)
  · rcases h5 with rfl | rfl | rfl | rfl <;> exact fun h => absurd h.2 (by decide)
theorem used_E {kind st : Int} (hk : KE kind) (h8 : kind = 8 ∨ kind = 9) : usedB (elE kind) (tabE kind st).f3 = false := by
  rcases hk with rfl | rfl | rfl
  · omega
  · rfl
  · omega
theorem step_up {kind st v : Int} (hk : KE kind) (hs : 1 ≤ st ∧ st ≤ 3) (hv : 0 ≤ v ∧ v < 1000) : stepP v [tabE kind st] 2 kind 1 (elE kind) true = ⟨v + 1, [tabE kind (st + 1)], 2, 0, 0, 0⟩ := by
  rw [stepP_eq, sch_E hk ⟨by omega, by omega⟩ hv, state_E hk ⟨hs.1, by omega⟩ hv, idx_E hk ⟨by omega, by omega⟩, if_neg (by simp), if_neg (by omega), if_neg (by omega), if_neg (by simp; omega), show rd_T70 [tabE kind st] 0 = tabE kind st from rfl, if_neg (col_E hk ⟨hs.1, by omega⟩), if_neg (by simp), if_pos rfl, turn_up hk hs]
  rfl
theorem step_dn {kind st v : Int} (hk : KE kind) (hs : 1 ≤ st ∧ st ≤ 4) (hv : 0 ≤ v ∧ v < 1000) : stepP v [tabE kind st] 2 kind 1 (elE kind) false = ⟨v + 1, [tabE kind (st - 1)], 2, 0, 0, 0⟩ := by
  rw [stepP_eq, sch_E hk ⟨by omega, by omega⟩ hv, state_E hk hs hv, idx_E hk ⟨by omega, by omega⟩, if_neg (by simp), if_neg (by omega), if_neg (by omega), if_neg (by simp; omega), show rd_T70 [tabE kind st] 0 = tabE kind st from rfl, if_neg (col_E hk hs), if_neg (by rintro ⟨-, -, h8, hu⟩; rw [used_E hk h8] at hu; cases hu), if_neg (by simp), turn_dn hk hs]
  rfl
theorem job_E {kind how : Int} (hk : KE kind) (hh : how = 1 ∨ how = 2) : jobB 1 kind 1 (elE kind) how ⟨#[]⟩ false = true := by
  rcases hk with rfl | rfl | rfl <;> rcases hh with rfl | rfl <;> (show _ = _; kernel_rfl)
theorem next_E {kind st v how : Int} (hk : KE kind) (hs : 1 ≤ st ∧ st ≤ 4) (hv : 0 ≤ v ∧ v < 1000) (hh : how = 1 ∨ how = 2) (rd : Bool) : nextQ v [tabE kind st] 2 1 kind 1 (elE kind) how rd ⟨#[]⟩ false = nextP how rd st := by
  unfold nextQ
  rw [sch_E hk ⟨by omega, hs.2⟩ hv, job_E hk hh, if_neg (by simp), if_neg (by omega), state_E hk hs hv]
theorem wf_E {kind st : Int} (hk : KE kind) : ∀ t ∈ [tabE kind st], TabWf t := by
  intro t ht
  rw [List.mem_singleton.1 ht]
  have cA : ColWf tA := ⟨by decide, by decide, by decide, by decide, by decide⟩
  have cB : ColWf tB := ⟨by decide, by decide, by decide, by decide, by decide⟩
  have cC : ColWf (tC st) := ⟨show (-9223372036854775808 : Int) ≤ 3 by decide, show (3 : Int) < 9223372036854775808 by decide, show (1 : Nat) ≤ maxLen by decide, show (0 : Int) ≤ 0 by decide, show (0 : Int) < 18446744073709551616 by decide⟩
  have cN : ColWf (tN st) := ⟨show (-9223372036854775808 : Int) ≤ 2 by decide, show (2 : Int) < 9223372036854775808 by decide, show (1 : Nat) ≤ maxLen by decide, show (0 : Int) ≤ 0 by decide, show (0 : Int) < 18446744073709551616 by decide⟩
  rcases hk with rfl | rfl | rfl
  · show TabWf (tT (if st = 0 then [] else [xI st]) 4)
    refine awake_wf _ 4 ?_ _ (List.mem_singleton.2 rfl)
    split
    · intro x hx; cases hx
    · exact xI_wf st
  · show TabWf ⟨1, ⟨#[116]⟩, (if st = 0 then [tA, tB] else [tA, tB, tC st]), [], 4⟩
    refine ⟨show (1 : Nat) ≤ maxLen by decide, fun c hc => ?_, fun x hx => by cases hx⟩
    have hc' : c ∈ (if st = 0 then [tA, tB] else [tA, tB, tC st]) := hc
    split at hc'
    · simp at hc'; rcases hc' with rfl | rfl; exact cA; exact cB
    · simp at hc'; rcases hc' with rfl | rfl | rfl; exact cA; exact cB; exact cC
  · show TabWf ⟨1, ⟨#[116]⟩, [tA, tN st], [], 3⟩
    refine ⟨show (1 : Nat) ≤ maxLen by decide, fun c hc => ?_, fun x hx => by cases hx⟩
    have hc' : c ∈ [tA, tN st] := hc
    simp at hc'; rcases hc' with rfl | rfl; exact cA; exact cN
theorem val_E {kind st : Int} (hk : KE kind) : ∀ t ∈ [tabE kind st], ∀ c ∈ t.f2, ValWf c.f5 := fun t ht c hc => ((wf_E hk t ht).2.1 c hc).2.2.2
end Go.Proofs.YtjgomlcdmpcoaaaDoor.H
