/- Own texts of this session, packed by its program wip/pp/pack.py: lemmas and walks of functions. -/
import Derived.Deep.RegionLaw
import Derived.Lib.SliceRun
import Derived.Test.YtjgomlcdmpcoaaaDoorKSteps4
import Derived.Test.YtjgomlcdmpcoaaaDoorKSteps7
import Derived.Test.YtjgomlcdmpcoaaaDoorKSteps8
namespace Go.Proofs.YtjgomlcdmpcoaaaDoor.H
open Go.RowKit Go.Proofs.YtjgomlcdmpcoaaaDoorW.PrintWords Go.Proofs.YtjgomlcdmpcoaaaDoorW.PrintLast Go.Proofs.YtjgomlcdmpcoaaaDoorW.PrintMore
open Go.Proofs.YtjgomlcdmpcoaaaDoor.D Go.Proofs.YtjgomlcdmpcoaaaDoor
attribute [local go_sem] max2_int min2_int max_two min_two max_three min_three max_four min_four
set_option linter.unusedVariables false
set_option linter.unusedSimpArgs false
def newColsG : Nat → List ByteArray → List Int → List S75
  | i, n :: ns, k :: ks => ⟨(i : Int) + 1, n, k, 4, 0, z73⟩ :: newColsG (i + 1) ns ks
  | _, _, _ => []
def keyed (l : List S75) : List S75 := match l with
  | [] => []
  | c :: r => ⟨c.f0, c.f1, c.f2, c.f3, 4, c.f5⟩ :: r
theorem newCols_pos : ∀ (ns : List ByteArray) (ks : List Int) (i : Nat), 0 < i → newCols i ns ks = newColsG i ns ks
  | [], _, _, _ => by unfold newCols newColsG; rfl
  | _ :: _, [], _, _ => by unfold newCols newColsG; rfl
  | n :: ns, k :: ks, i, h => by
    unfold newCols newColsG
    rw [if_neg (by omega), newCols_pos ns ks (i + 1) (by omega)]
theorem newCols_keyed (ns : List ByteArray) (ks : List Int) : newCols 0 ns ks = keyed (newColsG 0 ns ks) := by
  cases ns with
  | nil => rfl
  | cons n ns =>
    cases ks with
    | nil => rfl
    | cons k ks =>
      unfold newCols newColsG keyed
      rw [if_pos rfl, newCols_pos ns ks 1 (by omega)]
theorem keyed_set {l : List S75} (h : 0 < l.length) : keyed l = l.set 0 ⟨l[0].f0, l[0].f1, l[0].f2, l[0].f3, 4, l[0].f5⟩ := by
  cases l with
  | nil => simp at h
  | cons c r => rfl
theorem badCols_any : ∀ (ns : List ByteArray) (ks : List Int), ns.length = ks.length → badCols ns ks = (ns.any (fun n => !(nameB n)) || ks.any (fun k => !(decide (1 ≤ k) && decide (k ≤ 5))))
  | [], [], _ => rfl
  | n :: ns, k :: ks, h => by
    unfold badCols
    rw [badCols_any ns ks (by simpa using h), List.any_cons, List.any_cons]
    have hk : (decide (k < 1) || decide (5 < k)) = !(decide (1 ≤ k) && decide (k ≤ 5)) := by
      by_cases h1 : 1 ≤ k
      · by_cases h2 : k ≤ 5
        · rw [decide_eq_true h1, decide_eq_true h2, decide_eq_false (show ¬ k < 1 by omega), decide_eq_false (show ¬ 5 < k by omega)]; rfl
        · rw [decide_eq_true h1, decide_eq_false h2, decide_eq_false (show ¬ k < 1 by omega), decide_eq_true (show 5 < k by omega)]; rfl
      · rw [decide_eq_false h1, decide_eq_true (show k < 1 by omega)]; simp
    rw [hk]
    cases nameB n <;> cases (decide (1 ≤ k) && decide (k ≤ 5)) <;> simp
def crE (ts : List S70) (nx : Int) (s : S45) : Int :=
  if s.f0 ≠ 5 then 1
  else if nameB s.f1 = false then 3
  else if s.f3.any (fun n => !(nameB n)) = true then 3
  else if s.f3.length ≠ s.f9.length ∨ s.f3.length < 1 ∨ 8 < s.f3.length then 3
  else if s.f9.any (fun k => !(decide (1 ≤ k) && decide (k ≤ 5))) = true then 3
  else if 0 ≤ idxL (tName s.f1) ts 0 then 6
  else if twiceB [] s.f3 = true then 6
  else if 4 ≤ ts.length then 4
  else if 60000 ≤ nx then 4 else 0
theorem createP_eq {v : Int} {ts : List S70} {nx : Int} (h : nxtE v ts nx = 0) (s : S45) : createP v ts nx s = if crE ts nx s ≠ 0 then noTold (crE ts nx s) else ⟨v + 1, ts ++ [⟨mx nx 1, s.f1, keyed (newColsG 0 s.f3 s.f9), [], (s.f3.length : Int) + 1⟩], mx nx 1 + 1, 0, 0, 0⟩ := by
  have hsch : schB v ts nx = true ∧ ¬ 1099511627775 ≤ v := by
    unfold nxtE at h
    by_cases h1 : schB v ts nx = false
    · rw [if_pos h1] at h; cases h
    · rw [if_neg h1] at h
      refine ⟨by simpa using h1, fun h2 => ?_⟩
      rw [if_pos h2] at h
      cases h
  unfold createP
  rw [if_neg (by rw [hsch.1]; simp), if_neg hsch.2]
  generalize he : crE ts nx s = e
  unfold crE at he
  by_cases h0 : s.f0 ≠ 5
  · rw [if_pos h0] at he ⊢; subst he; rfl
  rw [if_neg h0] at he ⊢
  by_cases h1 : nameB s.f1 = false
  · rw [if_pos h1] at he; rw [if_pos (.inl h1)]; subst he; rfl
  rw [if_neg h1] at he
  by_cases h3 : s.f3.length ≠ s.f9.length ∨ s.f3.length < 1 ∨ 8 < s.f3.length
  · rw [if_pos (.inr h3)]
    have : e = 3 := by
      split at he
      · exact he.symm
      · first | exact he.symm | (rw [if_pos h3] at he; exact he.symm)
    subst this; rfl
  rw [if_neg (fun h => h.elim h1 h3)]
  have hl : s.f3.length = s.f9.length := by omega
  rw [if_neg h3] at he
  rw [badCols_any _ _ hl]
  cases ha : s.f3.any (fun n => !(nameB n)) with
  | true => rw [ha, if_pos rfl] at he; subst he; rfl
  | false =>
    rw [ha, if_neg (by simp)] at he
    cases hb : s.f9.any (fun k => !(decide (1 ≤ k) && decide (k ≤ 5))) with
    | true => rw [hb, if_pos rfl] at he; subst he; rfl
    | false =>
      rw [hb, if_neg (by simp)] at he
      rw [if_neg (by simp)]
      by_cases h6 : 0 ≤ idxL (tName s.f1) ts 0
      · rw [if_pos h6] at he; rw [if_pos (.inl h6)]; subst he; rfl
      rw [if_neg h6] at he
      by_cases h7 : twiceB [] s.f3 = true
      · rw [if_pos h7] at he; rw [if_pos (.inr h7)]; subst he; rfl
      rw [if_neg h7] at he
      rw [if_neg (fun h => h.elim h6 h7)]
      by_cases h8 : 4 ≤ ts.length
      · rw [if_pos h8] at he; rw [if_pos (.inl h8)]; subst he; rfl
      rw [if_neg h8] at he
      by_cases h9 : 60000 ≤ nx
      · rw [if_pos h9] at he; rw [if_pos (.inr h9)]; subst he; rfl
      rw [if_neg h9] at he
      rw [if_neg (fun h => h.elim h8 h9)]
      subst he
      rw [if_neg (by simp), newCols_keyed]
structure CgSt (w W : World) (bx sx yc : Array Value) (Y : Nat) (u : Value) (ts : List S70) : Prop where
  x : Bxs w W bx sx
  y : W.heap[Y]? = some (.cells yc 28 (0, 0))
  s : k70.R 70 W w.heap.size (fun _ => True) u ts
theorem CgSt.step {w W W1 : World} {bx sx yc : Array Value} {Y : Nat} {u : Value} {ts : List S70} (h : CgSt w W bx sx yc Y u ts) (hb : Below W.heap.size W W1) : CgSt w W1 bx sx yc Y u ts := ⟨h.x.step hb, blk_below h.y hb, Kd.R_below h.s hb⟩
theorem CrSt.key {w2 wr : World} {id n4 : Int} {nm_ : ByteArray} {gi m c : Nat} {l : List S75} (h : CrSt w2 wr id nm_ n4 (.slice (some ⟨gi, 0, none⟩) m c) l) (hl : 0 < l.length) :
    CrSt w2 (wr.setCell ⟨gi, 4, none⟩ (.int .i64 4)) id nm_ n4 (.slice (some ⟨gi, 0, none⟩) m c) (keyed l) := by
  have hm := (Kd.R_reads' h.row).1
  obtain ⟨cs, hcl, hM, hcc, _⟩ := Kd.R_elem h.row z75 ((0 : Nat) : Int) (by omega) (by omega)
  rw [show l.getD ((0 : Nat) : Int).toNat z75 = l[0] by simp [List.getD, hl]] at hM
  obtain rfl := k75_openM hM
  obtain ⟨hr, hg⟩ := Kd.R_seg h.row ((0 : Nat) : Int) (by omega) (by omega) (seg := [.int .i64 4]) (j := 4) hcl hcc (Nat.le_of_ble_eq_true rfl) (x' := ⟨l[0].f0, l[0].f1, l[0].f2, l[0].f3, 4, l[0].f5⟩) (k75_mkM wr w2.heap.size _ ⟨l[0].f0, l[0].f1, l[0].f2, l[0].f3, 4, l[0].f5⟩) (okp := fun _ => False) (fun k hk => hk.elim)
  have hr2 : k75.R 75 (wr.setCell ⟨gi, 4, none⟩ (.int .i64 4)) w2.heap.size (fun _ => True) (.slice (some ⟨gi, 0, none⟩) m c) (l.set 0 ⟨l[0].f0, l[0].f1, l[0].f2, l[0].f3, 4, l[0].f5⟩) := by
    exact hr
  rw [keyed_set hl]
  have hbase := Kd.R_base h.row gi (by simp [Value.ownBlock])
  have hne := Kd.R_ne h.row h.box (by decide)
  refine ⟨h.below.setCell (p := ⟨gi, 4, none⟩) hbase _, ?_, hr2⟩
  exact blk_far h.box (p := ⟨gi, 4, none⟩) (fun e => hne (by rw [e]; simp [Value.ownBlock])) _
theorem name93_calls (n : ByteArray) (w : World) (hG : GL w) : Calls Tryd.prog 93 #[.string n] w fun e w' => e = .returned (.bool (!(nameB n))) ∧ Below w.heap.size w w' := pred93 w hG w n (Below.refl _ _)
theorem nxtE_neC {v : Int} {ts : List S70} {nx : Int} (h : nxtE v ts nx ≠ 0) {s : S45} : createP v ts nx s = noTold (nxtE v ts nx) := by
  unfold nxtE at h ⊢
  unfold createP
  by_cases h1 : schB v ts nx = false
  · rw [if_pos h1, if_pos h1]
  · rw [if_neg h1] at h ⊢
    rw [if_neg h1]
    by_cases h2 : 1099511627775 ≤ v
    · rw [if_pos h2, if_pos h2]
    · rw [if_neg h2] at h
      exact absurd rfl h
theorem nxtE_eqC {v : Int} {ts : List S70} {nx : Int} (h : nxtE v ts nx = 0) : schB v ts nx = true ∧ ¬ 1099511627775 ≤ v := by
  unfold nxtE at h
  by_cases h1 : schB v ts nx = false
  · rw [if_pos h1] at h; cases h
  · rw [if_neg h1] at h
    refine ⟨by simpa using h1, fun h2 => ?_⟩
    rw [if_pos h2] at h
    cases h
set_option maxRecDepth 100000 in
set_option maxHeartbeats 8000000 in
theorem createG_calls (v : Int) (ts : List S70) (nx : Int) (s : S45) (hwf : ∀ t ∈ ts, TabWf t) (hv64 : -9223372036854775808 ≤ v ∧ v < 9223372036854775808) (A : Option Addr) (c : Nat) (w : World) (hG : GL w) (hc : ts.length ≤ c) (hC : k70.C w A ts.length ts) (cs : List Value) (hs : k45.K w s cs) (hok : StmtOk s) :
    Calls Tryd.prog 49 #[.agg #[.int .i64 v, .slice A ts.length c, .int .i64 nx], .agg cs.toArray] w (TellsE w (createP v ts nx s)) := by
  obtain ⟨A3, c3, A4, c4, A5, c5, A6, c6, A9, c9, rfl, l3, g3, -, -, -, -, -, -, l9, g9⟩ := k45_open hs
  have HC3 := Aside0.mk g3
  have HC9 := Aside0.mk g9
  have HC := Aside0.mk hC
  have hl3 := hok.1
  have hl9 := hok.2.2.1
  obtain ⟨w0, hw0⟩ : ∃ w0, w0 = ((w.alloc (.cells #[.int .i64 v, .slice A ts.length c, .int .i64 nx] 28)).alloc (.cells #[.int .i64 s.f0, .string s.f1, .string s.f2, .slice A3 s.f3.length c3, .slice A4 s.f4.length c4, .slice A5 s.f5.length c5, .slice A6 s.f6.length c6, .bool s.f7, .int .i64 s.f8, .slice A9 s.f9.length c9] 45)).alloc (.cells #[.int .i64 0, .slice none 0 0, .int .i64 0] 28) := ⟨_, rfl⟩
  have hX0 : Bxs w w0 #[.int .i64 v, .slice A ts.length c, .int .i64 nx] #[.int .i64 s.f0, .string s.f1, .string s.f2, .slice A3 s.f3.length c3, .slice A4 s.f4.length c4, .slice A5 s.f5.length c5, .slice A6 s.f6.length c6, .bool s.f7, .int .i64 s.f8, .slice A9 s.f9.length c9] := by rw [hw0]; exact Bxs.new w _ _
  have HM := Lib.hid (cnext_calls v ts nx hwf hv64 A c w0 (hG.of_below hX0.below) hc (Kd.C_below hC hX0.below))
  have HGL := Lib.hid hG
  have HWF := Lib.hid hwf
  have hx0 := blk_cell (j := 0) (v := .int .i64 v) hX0.b0 rfl
  have hx1 := blk_cell (j := 1) (v := .slice A ts.length c) hX0.b0 rfl
  have hx2 := blk_cell (j := 2) (v := .int .i64 nx) hX0.b0 rfl
  have HX0 := Aside0.mk hX0
  have HW0 := Lib.hid hw0
  rw [hw0] at HM hx0 hx1 hx2
  obtain ⟨R, hR⟩ : ∃ R, createP v ts nx s = R := ⟨_, rfl⟩
  rw [hR]
  clear hX0 hC hG hwf hw0 hs hok g3 g9
  by_cases hn : nxtE v ts nx = 0
  rotate_left
  · have HR := Lib.hid (show R = noTold (nxtE v ts nx) by rw [← hR, nxtE_neC hn])
    obtain ⟨er, her⟩ : ∃ er, nxtE v ts nx = er := ⟨_, rfl⟩
    rw [her] at HR hn
    have hq : (er != 0) = true := by simpa using hn
    have HER := Lib.hid her
    clear hR her
    go_enter Tryd.func49, Tryd.ntmps49
    go_wp2_with fail
    refine HM.out.mono ?_
    rw [← HW0.out]
    rintro e w1 ⟨hb1, ⟨-, rfl⟩ | ⟨h, -⟩⟩
    rotate_left
    · exact absurd (HER.out.symm.trans h) hn
    rw [HER.out]
    have hX1 := HX0.out.step hb1
    have f0 := blk_frozen hX1.b2 0
    have f1 := blk_frozen hX1.b2 1
    have f2 := blk_frozen hX1.b2 2
    have c0 := blk_cell (j := 0) (v := .int .i64 0) hX1.b2 rfl
    have c1 := blk_cell (j := 1) (v := .slice none 0 0) hX1.b2 rfl
    have c2 := blk_cell (j := 2) (v := .int .i64 0) hX1.b2 rfl
    have hx3 := lt_of_block hX1.b2
    have hz := blk_alloc (blk_put (blk_put (blk_put hX1.b2 0 (.int .i64 0) rfl) 1 (.slice none 0 0) rfl) 2 (.int .i64 0) rfl) (.cells #[.int .i64 0, .slice none 0 0, .int .i64 0] 28)
    have hbz := below_alloc (hX1.out (.int .i64 0) (.slice none 0 0) (.int .i64 0)) (.cells #[.int .i64 0, .slice none 0 0, .int .i64 0] 28)
    have HBZ := Aside0.mk (And.intro hz hbz)
    clear hb1 hx0 hx1 hx2 hz hbz hX1
    go_wp2
    refine bodyPost_ret (v := .tuple #[.agg #[.int .i64 0, .slice none 0 0, .int .i64 0], .int .i64 er]) (by have r0 := blk_cell (j := 0) (v := .int .i64 0) HBZ.out.1 rfl; have r1 := blk_cell (j := 1) (v := .slice none 0 0) HBZ.out.1 rfl; have r2 := blk_cell (j := 2) (v := .int .i64 0) HBZ.out.1 rfl; simp [results, Tryd.results49, go_sem, r0, r1, r2]) rfl (tellse_no HR.out HBZ.out.2)
  have HN := Lib.hid hn
  have HI := Lib.hid (hR.symm.trans (createP_eq hn s))
  obtain ⟨er, her⟩ : ∃ er, crE ts nx s = er := ⟨_, rfl⟩
  rw [her] at HI
  have HE := Lib.hid her
  have HE1 := Lib.hid (her.symm.trans (show crE ts nx s = _ by unfold crE; exact rfl))
  have HSC := Lib.hid (nxtE_eqC hn).1
  have hnn : 0 ≤ nx ∧ nx < 1099511627776 := by have := HSC.out; unfold schB at this; simp only [Bool.and_eq_true, decide_eq_true_eq] at this; exact ⟨this.2.2.1, this.2.2.2.1⟩
  obtain ⟨hn0, hn1⟩ := hnn
  have hts4 : ts.length ≤ 4 := (schB_len HSC.out).2
  clear hR hn her
  go_enter Tryd.func49, Tryd.ntmps49
  go_wp2_with fail
  refine HM.out.mono ?_
  rw [← HW0.out]
  rintro e w1 ⟨hb1, ⟨h, -⟩ | ⟨-, u, rfl, hS⟩⟩
  · exact absurd HN.out h
  have hS' := Kd.S_lower hS HX0.out.below.size
  obtain ⟨Au, cu, rfl⟩ := Kd.S_slice hS'
  have hX1 := HX0.out.step hb1
  have hba := below_alloc (Below.refl _ w1) (.cells #[.int .i64 (v + 1), .slice Au ts.length cu, .int .i64 nx] 28)
  have hCG : CgSt w (w1.alloc (.cells #[.int .i64 (v + 1), .slice Au ts.length cu, .int .i64 nx] 28)) #[.int .i64 v, .slice A ts.length c, .int .i64 nx] #[.int .i64 s.f0, .string s.f1, .string s.f2, .slice A3 s.f3.length c3, .slice A4 s.f4.length c4, .slice A5 s.f5.length c5, .slice A6 s.f6.length c6, .bool s.f7, .int .i64 s.f8, .slice A9 s.f9.length c9] #[.int .i64 (v + 1), .slice Au ts.length cu, .int .i64 nx] w1.heap.size (.slice Au ts.length cu) ts :=
    ⟨hX1.step hba, heap_alloc_new w1 _, Kd.R_below (Kd.S_R hS') hba⟩
  have hYw : w.heap.size + 1 + 1 < w1.heap.size := lt_of_block hX1.b2
  have x0 := blk_cell (j := 0) (v := .int .i64 v) hX1.b0 rfl
  have x1 := blk_cell (j := 1) (v := .slice A ts.length c) hX1.b0 rfl
  have x2 := blk_cell (j := 2) (v := .int .i64 nx) hX1.b0 rfl
  have s1 := blk_cell (j := 1) (v := .string s.f1) hX1.b1 rfl
  have HQ := Lib.hid (tableC_calls v ts nx s.f1 HWF.out A c _ (HGL.out.of_below hCG.x.below) hc (Kd.C_below HC.out hCG.x.below))
  have HG1 := Aside0.mk hCG
  have hq9 : w.heap.size < w1.heap.size ∧ w.heap.size + 1 < w1.heap.size := by omega
  obtain ⟨hq9a, hq9b⟩ := hq9
  clear hb1 hS hS' hX1 hba hCG hx0 hx1 hx2
  go_wp2_with fail
  refine HQ.out.mono ?_
  clear HQ x0 x1 x2 s1
  obtain ⟨Y, hY⟩ : ∃ Y, Y = w1.heap.size := ⟨_, rfl⟩
  rw [← hY] at HG1 hYw hq9a hq9b
  have hix : (TabP v ts nx s.f1) = idxL (tName s.f1) ts 0 := by unfold TabP; rw [if_neg (by rw [HSC.out]; simp)]
  have hthere : ∃ th : Bool, th = decide (0 ≤ idxL (tName s.f1) ts 0) := ⟨_, rfl⟩
  obtain ⟨th, hth⟩ := hthere
  have HTH := Lib.hid hth
  have HYY := Lib.hid hY
  clear hth
  rintro e w2 ⟨hb2, hcase⟩
  have hwb : (w1.alloc (.cells #[.int .i64 (v + 1), .slice Au ts.length cu, .int .i64 nx] 28)).heap.size = w1.heap.size + 1 := by simp
  have HG2 := Aside0.mk (HG1.out.step hb2)
  have hres : ∃ i0 n0 B2 m2 d2 B3 m3 d3 i4, e = .returned (.tuple #[.agg #[.int .i64 i0, .string n0, .slice B2 m2 d2, .slice B3 m3 d3, .int .i64 i4], .bool th]) := by
    rcases hcase with ⟨h1, rfl⟩ | ⟨k, hk, h1, cs', rfl, hK⟩
    · have : th = false := by rw [HTH.out]; exact decide_eq_false (by omega)
      subst this
      exact ⟨_, _, _, _, _, _, _, _, _, rfl⟩
    · have : th = true := by rw [HTH.out]; exact decide_eq_true (by omega)
      subst this
      obtain ⟨B2, d2, B3, d3, rfl, -⟩ := k70_open hK
      exact ⟨_, _, _, _, _, _, _, _, _, rfl⟩
  obtain ⟨i0, n0, B2, m2, d2, B3, m3, d3, i4, rfl⟩ := hres
  have HG3 := Aside0.mk (HG2.out.step (below_alloc (Below.refl _ w2) (.cells #[.int .i64 i0, .string n0, .slice B2 m2 d2, .slice B3 m3 d3, .int .i64 i4] 70)))
  have s0 := blk_cell (j := 0) (v := .int .i64 s.f0) HG2.out.x.b1 rfl
  have s1 := blk_cell (j := 1) (v := .string s.f1) HG2.out.x.b1 rfl
  have hY2 : w.heap.size + 1 + 1 < w2.heap.size := lt_of_block HG2.out.x.b2
  have hY3 : w.heap.size + 1 < w2.heap.size := by omega
  clear hb2 hcase hix hwb HG1
  by_cases h5 : ¬ s.f0 = 5
  · have hd5 : (s.f0 != 5) = true := by simpa using h5
    obtain rfl : er = 1 := by rw [HE1.out, if_pos h5]
    have HR := Lib.hid (show R = noTold 1 by rw [HI.out, if_pos (by decide)])
    have f0 := blk_frozen HG2.out.x.b2 0
    have f1 := blk_frozen HG2.out.x.b2 1
    have f2 := blk_frozen HG2.out.x.b2 2
    have c0 := blk_cell (j := 0) (v := .int .i64 0) HG2.out.x.b2 rfl
    have c1 := blk_cell (j := 1) (v := .slice none 0 0) HG2.out.x.b2 rfl
    have c2 := blk_cell (j := 2) (v := .int .i64 0) HG2.out.x.b2 rfl
    have hz := blk_alloc (blk_put (blk_put (blk_put HG2.out.x.b2 0 (.int .i64 0) rfl) 1 (.slice none 0 0) rfl) 2 (.int .i64 0) rfl) (.cells #[.int .i64 i0, .string n0, .slice B2 m2 d2, .slice B3 m3 d3, .int .i64 i4] 70)
    have hbz := below_alloc (HG2.out.x.out (.int .i64 0) (.slice none 0 0) (.int .i64 0)) (.cells #[.int .i64 i0, .string n0, .slice B2 m2 d2, .slice B3 m3 d3, .int .i64 i4] 70)
    have HBZ := Aside0.mk (And.intro hz hbz)
    clear hz hbz h5 HE1
    go_wp2
    refine bodyPost_ret (v := .tuple #[.agg #[.int .i64 0, .slice none 0 0, .int .i64 0], .int .i64 1]) (by have r0 := blk_cell (j := 0) (v := .int .i64 0) HBZ.out.1 rfl; have r1 := blk_cell (j := 1) (v := .slice none 0 0) HBZ.out.1 rfl; have r2 := blk_cell (j := 2) (v := .int .i64 0) HBZ.out.1 rfl; simp [results, Tryd.results49, go_sem, r0, r1, r2]) rfl (tellse_no HR.out HBZ.out.2)
  have hd5 : (s.f0 != 5) = false := by simpa using h5
  have HE2 := Lib.hid (HE1.out.trans (if_neg h5))
  have HN93 := Lib.hid enters93
  clear h5 HE1
  go_wp2_with fail
  refine (name93_calls s.f1 _ (HGL.out.of_below HG3.out.x.below)).mono ?_
  rintro e w4 ⟨rfl, hb4⟩
  have HG4 := Aside0.mk (HG3.out.step hb4)
  clear hb4 s0 s1 HG2 HG3 hY2 hY3 hd5
  have s3 := blk_cell (j := 3) (v := .slice A3 s.f3.length c3) HG4.out.x.b1 rfl
  cases hnm : nameB s.f1 with
  | false =>
    obtain rfl : er = 3 := by rw [HE2.out, if_pos hnm]
    have HR := Lib.hid (show R = noTold 3 by rw [HI.out, if_pos (by decide)])
    have f0 := blk_frozen HG4.out.x.b2 0
    have f1 := blk_frozen HG4.out.x.b2 1
    have f2 := blk_frozen HG4.out.x.b2 2
    have c0 := blk_cell (j := 0) (v := .int .i64 0) HG4.out.x.b2 rfl
    have c1 := blk_cell (j := 1) (v := .slice none 0 0) HG4.out.x.b2 rfl
    have c2 := blk_cell (j := 2) (v := .int .i64 0) HG4.out.x.b2 rfl
    clear s3
    go_wp2
    all_goals
      refine bodyPost_ret (v := .tuple #[.agg #[.int .i64 0, .slice none 0 0, .int .i64 0], .int .i64 3]) (by simp [results, Tryd.results49, go_sem, c0, c1, c2]) rfl (tellse_no HR.out (HG4.out.x.out _ _ _))
  | true =>
  have HE3 := Lib.hid (HE2.out.trans (if_neg (by rw [hnm]; simp)))
  clear hnm HE2
  go_wp2_with fail
  refine (any94 93 #[] enters93 (fun n => !(nameB n)) A3 c3 s.f3 w4 (Kd.C_below HC3.out HG4.out.x.below) (pred93 _ (HGL.out.of_below HG4.out.x.below))).mono ?_
  rintro e w5 ⟨rfl, hb5⟩
  have HG5 := Aside0.mk (HG4.out.step hb5)
  clear hb5 s3 HG4
  have s3 := blk_cell (j := 3) (v := .slice A3 s.f3.length c3) HG5.out.x.b1 rfl
  have s9 := blk_cell (j := 9) (v := .slice A9 s.f9.length c9) HG5.out.x.b1 rfl
  cases han : s.f3.any (fun n => !(nameB n)) with
  | true =>
    obtain rfl : er = 3 := by rw [HE3.out, if_pos han]
    have HR := Lib.hid (show R = noTold 3 by rw [HI.out, if_pos (by decide)])
    have f0 := blk_frozen HG5.out.x.b2 0
    have f1 := blk_frozen HG5.out.x.b2 1
    have f2 := blk_frozen HG5.out.x.b2 2
    have c0 := blk_cell (j := 0) (v := .int .i64 0) HG5.out.x.b2 rfl
    have c1 := blk_cell (j := 1) (v := .slice none 0 0) HG5.out.x.b2 rfl
    have c2 := blk_cell (j := 2) (v := .int .i64 0) HG5.out.x.b2 rfl
    clear s3 s9
    go_wp2
    all_goals
      refine bodyPost_ret (v := .tuple #[.agg #[.int .i64 0, .slice none 0 0, .int .i64 0], .int .i64 3]) (by simp [results, Tryd.results49, go_sem, c0, c1, c2]) rfl (tellse_no HR.out (HG5.out.x.out _ _ _))
  | false =>
  have HE4 := Lib.hid (HE3.out.trans (if_neg (by rw [han]; simp)))
  clear han HE3
  by_cases hbad : s.f3.length ≠ s.f9.length ∨ s.f3.length < 1 ∨ 8 < s.f3.length
  · have hbad' : ((s.f3.length : Int) != (s.f9.length : Int)) = true ∨ (((s.f3.length : Int) != (s.f9.length : Int)) = false ∧ decide ((s.f3.length : Int) < 1) = true) ∨ (((s.f3.length : Int) != (s.f9.length : Int)) = false ∧ decide ((s.f3.length : Int) < 1) = false ∧ decide (8 < (s.f3.length : Int)) = true) := by
      by_cases h1 : s.f3.length = s.f9.length
      · have e1 : ((s.f3.length : Int) != (s.f9.length : Int)) = false := by rw [h1]; simp
        by_cases h2 : s.f3.length < 1
        · exact .inr (.inl ⟨e1, decide_eq_true (by omega)⟩)
        · exact .inr (.inr ⟨e1, decide_eq_false (by omega), decide_eq_true (by omega)⟩)
      · exact .inl (by rw [bne_iff_ne]; omega)
    obtain rfl : er = 3 := by rw [HE4.out, if_pos hbad]
    have HR := Lib.hid (show R = noTold 3 by rw [HI.out, if_pos (by decide)])
    have f0 := blk_frozen HG5.out.x.b2 0
    have f1 := blk_frozen HG5.out.x.b2 1
    have f2 := blk_frozen HG5.out.x.b2 2
    have c0 := blk_cell (j := 0) (v := .int .i64 0) HG5.out.x.b2 rfl
    have c1 := blk_cell (j := 1) (v := .slice none 0 0) HG5.out.x.b2 rfl
    have c2 := blk_cell (j := 2) (v := .int .i64 0) HG5.out.x.b2 rfl
    clear hbad HE4
    rcases hbad' with h1 | ⟨h1, h2⟩ | ⟨h1, h2, h3⟩
    all_goals
      go_wp2
      refine bodyPost_ret (v := .tuple #[.agg #[.int .i64 0, .slice none 0 0, .int .i64 0], .int .i64 3]) (by simp [results, Tryd.results49, go_sem, c0, c1, c2]) rfl (tellse_no HR.out (HG5.out.x.out _ _ _))
  have HE5 := Lib.hid (HE4.out.trans (if_neg hbad))
  have hl : s.f3.length = s.f9.length := by omega
  have hdl : ((s.f3.length : Int) != (s.f9.length : Int)) = false := by rw [hl]; simp
  have hd1 : decide ((s.f3.length : Int) < 1) = false := decide_eq_false (by omega)
  have hd8 : decide (8 < (s.f3.length : Int)) = false := decide_eq_false (by omega)
  have hlo : 1 ≤ s.f3.length := by omega
  have hhi : s.f3.length ≤ 8 := by omega
  have HLL := Lib.hid hl
  clear hbad HE4 hl
  go_wp2_with fail
  refine (any95 96 #[] enters96 (fun k => !(decide (1 ≤ k) && decide (k ≤ 5))) A9 c9 s.f9 w5 (Kd.C_below HC9.out HG5.out.x.below) (pred96 _)).mono ?_
  rintro e w6 ⟨rfl, hb6⟩
  have HG6 := Aside0.mk (HG5.out.step hb6)
  clear hb6 s3 s9 HG5 hdl hd1 hd8
  have s3 := blk_cell (j := 3) (v := .slice A3 s.f3.length c3) HG6.out.x.b1 rfl
  obtain ⟨q9, hq9⟩ : ∃ q, s.f9.any (fun k => !(decide (1 ≤ k) && decide (k ≤ 5))) = q := ⟨_, rfl⟩
  have HE5q := HE5.out
  rw [hq9] at HE5q ⊢
  cases q9 with
  | true =>
    obtain rfl : er = 3 := by rw [HE5q, if_pos rfl]
    have HR := Lib.hid (show R = noTold 3 by rw [HI.out, if_pos (by decide)])
    have f0 := blk_frozen HG6.out.x.b2 0
    have f1 := blk_frozen HG6.out.x.b2 1
    have f2 := blk_frozen HG6.out.x.b2 2
    have c0 := blk_cell (j := 0) (v := .int .i64 0) HG6.out.x.b2 rfl
    have c1 := blk_cell (j := 1) (v := .slice none 0 0) HG6.out.x.b2 rfl
    have c2 := blk_cell (j := 2) (v := .int .i64 0) HG6.out.x.b2 rfl
    clear s3 HE5q
    go_wp2
    all_goals
      refine bodyPost_ret (v := .tuple #[.agg #[.int .i64 0, .slice none 0 0, .int .i64 0], .int .i64 3]) (by simp [results, Tryd.results49, go_sem, c0, c1, c2]) rfl (tellse_no HR.out (HG6.out.x.out _ _ _))
  | false =>
  have HE6 := Lib.hid (HE5q.trans (if_neg (by simp)))
  clear hq9 HE5q HE5
  have hthv := HTH.out
  cases hth : th with
  | true =>
    rw [hth] at hthv
    subst hth
    have h6 : 0 ≤ idxL (tName s.f1) ts 0 := of_decide_eq_true hthv.symm
    obtain rfl : er = 6 := by rw [HE6.out, if_pos h6]
    have HR := Lib.hid (show R = noTold 6 by rw [HI.out, if_pos (by decide)])
    have f0 := blk_frozen HG6.out.x.b2 0
    have f1 := blk_frozen HG6.out.x.b2 1
    have f2 := blk_frozen HG6.out.x.b2 2
    have c0 := blk_cell (j := 0) (v := .int .i64 0) HG6.out.x.b2 rfl
    have c1 := blk_cell (j := 1) (v := .slice none 0 0) HG6.out.x.b2 rfl
    have c2 := blk_cell (j := 2) (v := .int .i64 0) HG6.out.x.b2 rfl
    clear s3 h6 hthv
    go_wp2
    all_goals
      refine bodyPost_ret (v := .tuple #[.agg #[.int .i64 0, .slice none 0 0, .int .i64 0], .int .i64 6]) (by simp [results, Tryd.results49, go_sem, c0, c1, c2]) rfl (tellse_no HR.out (HG6.out.x.out _ _ _))
  | false =>
  rw [hth] at hthv
  subst hth
  have h6 : ¬ 0 ≤ idxL (tName s.f1) ts 0 := of_decide_eq_false hthv.symm
  have HE7 := Lib.hid (HE6.out.trans (if_neg h6))
  clear h6 hthv HE6
  go_wp2_with fail
  refine (twice98_calls s.f3 (by omega) A3 c3 w6 l3 (Kd.C_below HC3.out HG6.out.x.below)).mono ?_
  rintro e w7 ⟨rfl, hb7⟩
  have HG7 := Aside0.mk (HG6.out.step hb7)
  clear hb7 s3 HG6
  cases htw : twiceB [] s.f3 with
  | true =>
    obtain rfl : er = 6 := by rw [HE7.out, if_pos htw]
    have HR := Lib.hid (show R = noTold 6 by rw [HI.out, if_pos (by decide)])
    have f0 := blk_frozen HG7.out.x.b2 0
    have f1 := blk_frozen HG7.out.x.b2 1
    have f2 := blk_frozen HG7.out.x.b2 2
    have c0 := blk_cell (j := 0) (v := .int .i64 0) HG7.out.x.b2 rfl
    have c1 := blk_cell (j := 1) (v := .slice none 0 0) HG7.out.x.b2 rfl
    have c2 := blk_cell (j := 2) (v := .int .i64 0) HG7.out.x.b2 rfl
    go_wp2
    all_goals
      refine bodyPost_ret (v := .tuple #[.agg #[.int .i64 0, .slice none 0 0, .int .i64 0], .int .i64 6]) (by simp [results, Tryd.results49, go_sem, c0, c1, c2]) rfl (tellse_no HR.out (HG7.out.x.out _ _ _))
  | false =>
  have HE8 := Lib.hid (HE7.out.trans (if_neg (by rw [htw]; simp)))
  clear htw HE7
  have x1 := blk_cell (j := 1) (v := .slice A ts.length c) HG7.out.x.b0 rfl
  have x2 := blk_cell (j := 2) (v := .int .i64 nx) HG7.out.x.b0 rfl
  by_cases h4 : 4 ≤ ts.length
  · have hd4 : ((ts.length : Int) == 4) = true := by rw [beq_iff_eq]; omega
    obtain rfl : er = 4 := by rw [HE8.out, if_pos h4]
    have HR := Lib.hid (show R = noTold 4 by rw [HI.out, if_pos (by decide)])
    have f0 := blk_frozen HG7.out.x.b2 0
    have f1 := blk_frozen HG7.out.x.b2 1
    have f2 := blk_frozen HG7.out.x.b2 2
    have c0 := blk_cell (j := 0) (v := .int .i64 0) HG7.out.x.b2 rfl
    have c1 := blk_cell (j := 1) (v := .slice none 0 0) HG7.out.x.b2 rfl
    have c2 := blk_cell (j := 2) (v := .int .i64 0) HG7.out.x.b2 rfl
    clear h4
    go_wp2
    all_goals
      refine bodyPost_ret (v := .tuple #[.agg #[.int .i64 0, .slice none 0 0, .int .i64 0], .int .i64 4]) (by simp [results, Tryd.results49, go_sem, c0, c1, c2]) rfl (tellse_no HR.out (HG7.out.x.out _ _ _))
  have hd4 : ((ts.length : Int) == 4) = false := by rw [beq_eq_false_iff_ne]; omega
  have HE9 := Lib.hid (HE8.out.trans (if_neg h4))
  by_cases h60 : 60000 ≤ nx
  · have hd6 : decide (60000 ≤ nx) = true := decide_eq_true h60
    obtain rfl : er = 4 := by rw [HE9.out, if_pos h60]
    have HR := Lib.hid (show R = noTold 4 by rw [HI.out, if_pos (by decide)])
    have f0 := blk_frozen HG7.out.x.b2 0
    have f1 := blk_frozen HG7.out.x.b2 1
    have f2 := blk_frozen HG7.out.x.b2 2
    have c0 := blk_cell (j := 0) (v := .int .i64 0) HG7.out.x.b2 rfl
    have c1 := blk_cell (j := 1) (v := .slice none 0 0) HG7.out.x.b2 rfl
    have c2 := blk_cell (j := 2) (v := .int .i64 0) HG7.out.x.b2 rfl
    clear h4 h60
    go_wp2
    all_goals
      refine bodyPost_ret (v := .tuple #[.agg #[.int .i64 0, .slice none 0 0, .int .i64 0], .int .i64 4]) (by simp [results, Tryd.results49, go_sem, c0, c1, c2]) rfl (tellse_no HR.out (HG7.out.x.out _ _ _))
  have hd6 : decide (60000 ≤ nx) = false := decide_eq_false h60
  obtain rfl : er = 0 := by rw [HE9.out, if_neg h60]
  have HR := Lib.hid (HI.out.trans (if_neg (by simp)))
  have s1 := blk_cell (j := 1) (v := .string s.f1) HG7.out.x.b1 rfl
  have s3 := blk_cell (j := 3) (v := .slice A3 s.f3.length c3) HG7.out.x.b1 rfl
  obtain ⟨id, hid⟩ : ∃ id, mx nx 1 = id := ⟨_, rfl⟩
  have hm : (if nx < 1 then (1 : Int) else nx) = id := hid
  have HID := Lib.hid hid
  have hid0 : 1 ≤ id ∧ id < 1099511627776 := by rw [← hid]; unfold mx; split <;> omega
  have hlts : ts.length < 4 := by omega
  have HS0 := Aside0.mk (CrSt.new w7 id s.f1 ((s.f3.length : Int) + 1))
  have hy7 : w.heap.size + 1 < w7.heap.size := lt_of_block HG7.out.x.b1
  clear h4 h60 HE8 HE9 hid HI
  go_wp2_with fail
  clear hm x1 x2 s1 s3 hd4 hd6
  obtain ⟨hid1, hid2⟩ := hid0
  subst hY
  go_loopg [12, 13, 93] s.f3.length (fun gg _ _ u93 wr => ∃ j : Nat, ∃ cv : Value, ∃ l : List S75, j ≤ s.f3.length ∧ s.f3.length - j ≤ gg ∧ u93 = .int .i64 j ∧ Aside0 (CrSt w7 wr id s.f1 ((s.f3.length : Int) + 1) cv l) ∧ Aside0 (l.length = j) ∧ Aside0 (newColsG 0 s.f3 s.f9 = l ++ newColsG j (s.f3.drop j) (s.f9.drop j)))
  case atStart => exact ⟨0, _, [], Nat.zero_le _, by omega, rfl, HS0, ⟨rfl⟩, ⟨by rw [List.drop_zero, List.drop_zero]; rfl⟩⟩
  case round =>
    clear HS0
    obtain ⟨j, cv, l, hj, hgj, rfl, HS, HJ, HA⟩ := hrel
    obtain ⟨Ac, cc, hcv⟩ := Kd.R_slice HS.out.row
    rw [HJ.out] at hcv
    subst hcv
    have HGr := Aside0.mk (HG7.out.step HS.out.below)
    by_cases hlt : j < s.f3.length
    · have hltz : (j : Int) < (s.f3.length : Int) := by omega
      have hlt9 : j < s.f9.length := by have := HLL.out; omega
      have hltz9 : (j : Int) < (s.f9.length : Int) := by omega
      obtain ⟨a3, eA3, es⟩ := at_str (Kd.C_below HC3.out HGr.out.x.below) j hlt
      obtain ⟨a9, eA9, e9⟩ := at_int (Kd.C_below HC9.out HGr.out.x.below) j hlt9
      cases eA3
      cases eA9
      have hA := HA.out
      rw [List.drop_eq_getElem_cons hlt, List.drop_eq_getElem_cons hlt9] at hA
      generalize s.f3[j] = nme at es hA
      generalize s.f9[j] = kd at e9 hA
      have HA2 := Aside0.mk (show newColsG 0 s.f3 s.f9 = (l ++ [⟨(j : Int) + 1, nme, kd, 4, 0, z73⟩]) ++ newColsG (j + 1) (s.f3.drop (j + 1)) (s.f9.drop (j + 1)) by rw [hA, List.append_assoc]; rfl)
      have s9 := blk_cell (j := 9) (v := .slice (some a9) s.f9.length c9) HGr.out.x.b1 rfl
      have d2 := blk_cell (j := 2) (v := .slice Ac j cc) HS.out.box rfl
      have q1 : w7.heap.size < wr.heap.size := lt_of_block HS.out.box
      have q2 : w.heap.size + 1 < wr.heap.size := lt_of_block HGr.out.x.b1
      have q3 : (a9.add j).block < wr.heap.size := World.block_lt_of_cell? wr _ e9
      have hwj : IntKind.i64.wrap ((j : Int) + 1) = (j : Int) + 1 := IntWalk.i64_in _ (by omega)
      clear hA HA
      go_wp2_with fail
      go_region_law
        ((refine step_R k75 (by rfl) (.tmp 99) (.tmp 109) 67 75 (.agg #[(.int .i64 0), (.string ⟨#[]⟩), (.int .i64 0), (.int .i64 0), (.int .i64 0), (.int .i64 0), (.int .i64 0), (.int .u64 0), (.string ⟨#[]⟩)]) 88 (by rfl) Tryd.underlying67 info75 (by rfl) (by decide) (by decide) w7.heap.size (.slice Ac j cc) l (⟨(j : Int) + 1, nme, kd, 4, 0, z73⟩ : S75) [.int .i64 ((j : Int) + 1), .string nme, .int .i64 kd, .int .i64 4, .int .i64 0, .int .i64 0, .int .i64 0, .int .u64 0, .string ⟨#[]⟩] (fun _ => True) (fun _ => False) (by rfl) (by repeat (first | exact HS.out.row | refine Kd.R_drew ?_ | refine Kd.R_alloc ?_ _)) ⟨wr.heap.size, 0, none⟩ (by rfl) (World.news_of_block (cs := #[_, _, _, _, _, _, _, _, _]) (t := 75) (fr := (0, 0)) (heap_alloc_new wr _)) (k75_mkM _ _ _ (⟨(j : Int) + 1, nme, kd, 4, 0, z73⟩ : S75)) (fun _ h => h.elim) (fun _ _ => trivial) (by simp; omega) (by rw [HJ.out]; omega) ?_; intro A1 c1 w8 hr hg1; have hx1 := (hg1.block w7.heap.size (Nat.lt_of_lt_of_le q1 (by simp)) (Kd.R_ne HS.out.row HS.out.box (by decide))).trans (blk_alloc HS.out.box (.cells #[.int .i64 ((j : Int) + 1), .string nme, .int .i64 kd, .int .i64 4, .int .i64 0, .int .i64 0, .int .i64 0, .int .u64 0, .string ⟨#[]⟩] 75)); have d1 := blk_cell (j := 2) (v := .slice Ac j cc) hx1 rfl; have f1 := blk_frozen hx1 2))
      all_goals
        have hst := HS.out.step (below_drew (below_alloc (Below.refl _ wr) (.cells #[.int .i64 ((j : Int) + 1), .string nme, .int .i64 kd, .int .i64 4, .int .i64 0, .int .i64 0, .int .i64 0, .int .u64 0, .string ⟨#[]⟩] 75)))
        have HN2 := Aside0.mk (hst.next (hst.below.grown hg1 hst.below.size (Kd.R_base hst.row)) hg1 hr)
        clear hst hr hg1 hx1 d1 f1 e9 es d2 s9
        go_wp2
        go_roundg (s.f3.length - (j + 1))
        case measure => omega
        case rel => exact ⟨j + 1, _, l ++ [⟨(j : Int) + 1, nme, kd, 4, 0, z73⟩], by omega, by omega, by go_num, HN2, ⟨by rw [List.length_append, HJ.out]; rfl⟩, HA2⟩
    · have hltz : ¬ (j : Int) < (s.f3.length : Int) := by omega
      obtain rfl : j = s.f3.length := by omega
      have hNC : newColsG 0 s.f3 s.f9 = l := by rw [HA.out, List.drop_eq_nil_of_le (by omega)]; unfold newColsG; exact List.append_nil l
      have HNC := Lib.hid hNC
      have hlp : 0 < l.length := by rw [HJ.out]; omega
      obtain ⟨gi, ci, hgi, -⟩ := Kd.R_form HS.out.row hlp
      obtain rfl : Ac = some ⟨gi, 0, none⟩ := by injection hgi
      obtain ⟨cz, hcl, hM, hcc, hfr⟩ := Kd.R_elem HS.out.row z75 ((0 : Nat) : Int) (by omega) (by omega)
      rw [show l.getD ((0 : Nat) : Int).toNat z75 = l[0] by simp [List.getD, hlp]] at hM
      obtain rfl := k75_openM hM
      have k4 : wr.cell? ⟨gi, 4, none⟩ = some (.int .i64 l[0].f4) := hcc 4 _ rfl
      have kf : wr.frozen? ⟨gi, 4, none⟩ = false := hfr 4
      have hgb : w7.heap.size ≤ gi := Kd.R_base HS.out.row gi (by simp [Value.ownBlock])
      have hgl : gi < wr.heap.size := Kd.R_lt HS.out.row gi (by simp [Value.ownBlock])
      have HK := Aside0.mk (HS.out.key hlp)
      have hs1 := Kd.R_far (Kd.R_below (Kd.R_bound HG7.out.s) HS.out.below) (p := ⟨gi, 4, none⟩) (fun k hk e => by have h1 := hk.2.2.1; have e' : k = gi := e; omega) (.int .i64 4)
      have HU8 := Aside0.mk (Kd.R_mono hs1 (fun k hk => hk.1))
      have HLT := Lib.hid (fun k (hk : (Value.slice Au ts.length cu).ownBlock = some k) => Kd.R_lt HG7.out.s k hk)
      have hzg : ¬ gi = w7.heap.size := fun e => (Kd.R_ne HS.out.row HS.out.box (by decide)) (by rw [← e]; simp [Value.ownBlock])
      have hY7 : w1.heap.size < w7.heap.size := lt_of_block HG7.out.y
      have hR7 : w.heap.size + 1 + 1 < w7.heap.size := lt_of_block HG7.out.x.b2
      have hyg : ¬ gi = w1.heap.size := by omega
      have hrg : ¬ gi = w.heap.size + 1 + 1 := by omega
      have hyz : ¬ w1.heap.size = w7.heap.size := by omega
      have z0 := blk_cell (j := 0) (v := .int .i64 id) HS.out.box rfl
      have z1 := blk_cell (j := 1) (v := .string s.f1) HS.out.box rfl
      have z2 := blk_cell (j := 2) (v := .slice (some ⟨gi, 0, none⟩) s.f3.length cc) HS.out.box rfl
      have z3 := blk_cell (j := 3) (v := .slice none 0 0) HS.out.box rfl
      have z4 := blk_cell (j := 4) (v := .int .i64 ((s.f3.length : Int) + 1)) HS.out.box rfl
      have y1 := blk_cell (j := 1) (v := .slice Au ts.length cu) HGr.out.y rfl
      have HX8 := Aside0.mk (HGr.out.x.far (j := 4) (g := gi) (by omega) (.int .i64 4))
      have HY8 := Aside0.mk (blk_far HGr.out.y (p := ⟨gi, 4, none⟩) (Ne.symm hyg) (.int .i64 4))
      have HSZ8 := Lib.hid (show (wr.setCell ⟨gi, 4, none⟩ (.int .i64 4)).heap.size = wr.heap.size by simp)
      have HCL := Aside0.mk (Kd.R_lower (Kd.R_mono (Kd.R_bound HK.out.row) (fun k hk => hk.2.1) : k75.R 75 (wr.setCell ⟨gi, 4, none⟩ (.int .i64 4)) w7.heap.size (fun k => w7.heap.size ≤ k) (.slice (some ⟨gi, 0, none⟩) s.f3.length cc) (keyed l)) (show w.heap.size ≤ w7.heap.size by omega))
      clear hcl hM hcc hfr hs1 hgi HA hNC
      go_wp2_with ((with_reducible refine gate_builtin (b := .append) (xs := #[.tmp 118, .tmp 120]) rfl ?_); at_builtin; refine Kd.R_append k70 (w0 := w) w.heap.size rfl (.tmp 118) (.tmp 120) 26 70 (.agg #[(.int .i64 0), (.string ⟨#[]⟩), (.slice none 0 0), (.slice none 0 0), (.int .i64 0)]) 80 rfl Tryd.underlying26 info70 rfl (by decide) (by omega) (.slice Au ts.length cu) ts (⟨id, s.f1, keyed l, [], (s.f3.length : Int) + 1⟩ : S70) [.int .i64 id, .string s.f1, .slice (some ⟨gi, 0, none⟩) s.f3.length cc, .slice none 0 0, .int .i64 ((s.f3.length : Int) + 1)] (fun _ => True) (fun k => w7.heap.size ≤ k) rfl ?aX (k70_mkM _ _ _ (⟨id, s.f1, keyed l, [], (s.f3.length : Int) + 1⟩ : S70) HCL.out (Kd.R_nil _ _ _ _ _)) (fun k hk => ⟨trivial, fun e => by have := HLT.out k e.symm; omega⟩) (fun _ _ => trivial) HU8.out HX8.out.below HX8.out.below.size (by omega) ?_; (case aX => rw [HSZ8.out]; rfl); intro v9 w9 hr hb9 hg9 hat9; obtain ⟨A9', c9', h9⟩ := Kd.R_slice hr; rw [show (ts ++ [(⟨id, s.f1, keyed l, [], (s.f3.length : Int) + 1⟩ : S70)]).length = ts.length + 1 by simp] at h9; subst h9; have HR9 := Aside0.mk hr; have hne9 : ∀ {g : Nat} {cs : Array Value}, (wr.setCell ⟨gi, 4, none⟩ (.int .i64 4)).heap[g]? = some (.cells cs 28 (0, 0)) → some g ≠ (Value.slice Au ts.length cu).ownBlock := fun hx => Kd.R_ne HU8.out hx (by decide); have HY9 := Aside0.mk (blk_grown HY8.out hg9 (hne9 HY8.out)); have HZ9 := Aside0.mk (blk_grown HX8.out.b2 hg9 (hne9 HX8.out.b2)); have hZB := blk_grown (blk_far HS.out.box (p := ⟨gi, 4, none⟩) (Ne.symm hzg) (.int .i64 4)) hg9 (fun e => Nat.lt_irrefl _ (HLT.out w7.heap.size e.symm)); have d0 := blk_cell (j := 0) (v := .int .i64 id) hZB rfl; have HB9 := Aside0.mk hb9; have y0 := blk_cell (j := 0) (v := .int .i64 (v + 1)) HY9.out rfl; have y1' := blk_cell (j := 1) (v := .slice Au ts.length cu) HY9.out rfl; have y2 := blk_cell (j := 2) (v := .int .i64 nx) HY9.out rfl; have yf := blk_frozen HY9.out 1; have yf2 := blk_frozen HY9.out 2; have f0 := blk_frozen HZ9.out 0; have f1 := blk_frozen HZ9.out 1; have f2 := blk_frozen HZ9.out 2; have c0 := blk_cell (j := 0) (v := .int .i64 0) HZ9.out rfl; have c1 := blk_cell (j := 1) (v := .slice none 0 0) HZ9.out rfl; have c2 := blk_cell (j := 2) (v := .int .i64 0) HZ9.out rfl; have hq3 : ¬ w1.heap.size = w.heap.size + 1 + 1 := (by omega); clear hr hb9 hg9 hat9 hne9 z0 z1 z2 z3 z4 y1 k4 kf hZB)
      refine bodyPost_ret (v := .tuple #[.agg #[.int .i64 (v + 1), .slice A9' (ts.length + 1) c9', .int .i64 (id + 1)], .int .i64 0]) (by simp [results, Tryd.results49, go_sem, c0, c1, c2, y0, y1', y2]) rfl ?_
      have hp1 := blk_put HY9.out 1 (.slice A9' (ts.length + 1) c9') rfl
      have r1 := Kd.R_set (Kd.R_set HR9.out HY9.out (by decide) 1 (.slice A9' (ts.length + 1) c9')) hp1 (by decide) 2 (.int .i64 (id + 1))
      have r2 := blk_far (blk_far HZ9.out (p := ⟨w1.heap.size, 1, none⟩) (show w.heap.size + 1 + 1 ≠ w1.heap.size by omega) (.slice A9' (ts.length + 1) c9')) (p := ⟨w1.heap.size, 2, none⟩) (show w.heap.size + 1 + 1 ≠ w1.heap.size by omega) (.int .i64 (id + 1))
      have hlw : w.heap.size ≤ w.heap.size + 1 + 1 := by omega
      have hlw7 : w.heap.size ≤ w1.heap.size := by omega
      exact tellse_ok (by rw [HR.out, HNC.out, HID.out]) (R_set3 r1 r2) (((((HB9.out.setCell (p := ⟨w1.heap.size, 1, none⟩) hlw7 _).setCell (p := ⟨w1.heap.size, 2, none⟩) hlw7 _).setCell (p := ⟨w.heap.size + 1 + 1, 0, none⟩) hlw _).setCell (p := ⟨w.heap.size + 1 + 1, 1, none⟩) hlw _).setCell (p := ⟨w.heap.size + 1 + 1, 2, none⟩) hlw _)
end Go.Proofs.YtjgomlcdmpcoaaaDoor.H
namespace Go.Proofs.YtjgomlcdmpcoaaaDoor.H
open Go.RowKit Go.Proofs.YtjgomlcdmpcoaaaDoorW.PrintWords Go.Proofs.YtjgomlcdmpcoaaaDoorW.PrintLast Go.Proofs.YtjgomlcdmpcoaaaDoorW.PrintMore
open Go.Proofs.YtjgomlcdmpcoaaaDoor.D Go.Proofs.YtjgomlcdmpcoaaaDoor
set_option linter.unusedVariables false
set_option linter.unusedSimpArgs false
theorem rused_calls (t : S70) (h3 : t.f3.length ≤ 4) (hn : ∀ x ∈ t.f3, x.f2.length ≤ 8) (n : Int) (A2 : Option Addr) (c2 : Nat) (A3 : Option Addr) (c3 : Nat) (w : World) (l2 : t.f2.length ≤ c2) (g2 : k75.C w A2 t.f2.length t.f2) (l3 : t.f3.length ≤ c3) (g3 : k98.C w A3 t.f3.length t.f3) :
    Calls Tryd.prog 68 #[.agg #[.int .i64 t.f0, .string t.f1, .slice A2 t.f2.length c2, .slice A3 t.f3.length c3, .int .i64 t.f4], .int .i64 n] w fun e w' => e = .returned (.bool (usedB n t.f3)) ∧ Below w.heap.size w w' := by
  have h := used_run (t := t) n (by omega) (fun x hx => by have := hn x hx; omega) t.f3.length 1001 0 (by omega) (by omega)
  rw [List.drop_zero] at h
  exact falseworkref18_used.calls 1001 t.f0 t.f1 A2 c2 t.f2 A3 c3 t.f3 t.f4 n _ w g2 l2 g3 l3 h
end Go.Proofs.YtjgomlcdmpcoaaaDoor.H
namespace Go.Proofs.YtjgomlcdmpcoaaaDoor.H
open Go.RowKit Go.Proofs.YtjgomlcdmpcoaaaDoorW.PrintWords Go.Proofs.YtjgomlcdmpcoaaaDoorW.PrintLast Go.Proofs.YtjgomlcdmpcoaaaDoorW.PrintMore
open Go.Proofs.YtjgomlcdmpcoaaaDoor.D Go.Proofs.YtjgomlcdmpcoaaaDoor
set_option linter.unusedVariables false
set_option linter.unusedSimpArgs false
def UpdK (F : Nat) (kind : Int) (f : S70 → S45 → S70 × Int × Int) : Prop :=
  ∀ (w0 W : World) (g n cap : Nat) (ts : List S70) (i : Nat) (oki : Nat → Prop) (t : S70) (cv iv : Value) (s : S45) (cs : List Value), GL w0 → Below w0.heap.size w0 W → Lent W w0.heap.size g n cap ts i oki t cv iv → tableB t = true → k45.K w0 s cs → StmtOk s → s.f0 = kind →
    Calls Tryd.prog F #[.pointer (some ⟨g, i * 5, none⟩), .agg cs.toArray] W fun e W' => e = .returned (.tuple #[.int .i64 (f t s).2.1, .int .i64 (f t s).2.2]) ∧ Kd.S k70 70 W' w0.heap.size (fun _ => True) (.slice (some ⟨g, 0, none⟩) n cap) (ts.set i (f t s).1) ∧ Tch w0.heap.size W W'
theorem cNamed_true (n : ByteArray) (l : List S75) (i : Nat) : idxL (cNamed n true) l i = idxL (cShown n) l i := idxL_same _ _ (fun x => by unfold cNamed cShown; simp) l i
end Go.Proofs.YtjgomlcdmpcoaaaDoor.H
namespace Go.Proofs.YtjgomlcdmpcoaaaDoor.H
open Go.RowKit Go.Proofs.YtjgomlcdmpcoaaaDoorW.PrintWords Go.Proofs.YtjgomlcdmpcoaaaDoorW.PrintLast Go.Proofs.YtjgomlcdmpcoaaaDoorW.PrintMore
open Go.Proofs.YtjgomlcdmpcoaaaDoor.D Go.Proofs.YtjgomlcdmpcoaaaDoor
set_option linter.unusedVariables false
set_option linter.unusedSimpArgs false
theorem xNamed_any (n : ByteArray) (l : List S98) : decide (0 ≤ idxL (xNamed n false) l 0) = l.any (xName n) := by
  rw [idxL_any]
  congr 1
  funext x
  unfold xNamed xName
  simp
set_option maxRecDepth 100000 in
set_option maxHeartbeats 4000000 in
theorem addIndexG_upd : UpdK 99 6 addIndexP := by
  intro w0 W g n cap ts i oki t cv iv s cs hG hB hL ht hs hok hkd
  obtain ⟨A3, c3, A4, c4, A5, c5, A6, c6, A9, c9, rfl, l3, g3, -, -, -, -, -, -, -, -⟩ := k45_open hs
  obtain ⟨m2, m3, m4, m5⟩ := tableB_lens ht
  obtain ⟨Ai, ci, hiv, lci, hCi⟩ := Kd.R_reads hL.inds
  obtain ⟨Ac, cc, hcv, lcc, hCc⟩ := Kd.R_reads hL.cols
  subst hiv hcv
  have HC := Aside0.mk g3
  have hl3 := hok.1
  obtain ⟨BX, hBX⟩ : ∃ b : Array Value, b = #[.int .i64 s.f0, .string s.f1, .string s.f2, .slice A3 s.f3.length c3, .slice A4 s.f4.length c4, .slice A5 s.f5.length c5, .slice A6 s.f6.length c6, .bool s.f7, .int .i64 s.f8, .slice A9 s.f9.length c9] := ⟨_, rfl⟩
  have HN := Lib.hid (fun W' (hb : Below w0.heap.size w0 W') => nameCalls s.f2 W' (hG.of_below hb))
  have HI := Lib.hid (show addIndexP t s = _ by unfold addIndexP; exact rfl)
  have hba := below_alloc (Below.refl _ W) (.cells #[.int .i64 s.f0, .string s.f1, .string s.f2, .slice A3 s.f3.length c3, .slice A4 s.f4.length c4, .slice A5 s.f5.length c5, .slice A6 s.f6.length c6, .bool s.f7, .int .i64 s.f8, .slice A9 s.f9.length c9] 45)
  have HBA := Aside0.mk (below_then hB hB.size hba)
  have HU := Aside0.mk ((⟨hL, Tch.refl _ _, hB.size⟩ : UpdSt w0 W W g n cap ts i oki t (.slice Ac t.f2.length cc) (.slice Ai t.f3.length ci)).step hba)
  have HX0 := Aside0.mk (heap_alloc_new W (.cells #[.int .i64 s.f0, .string s.f1, .string s.f2, .slice A3 s.f3.length c3, .slice A4 s.f4.length c4, .slice A5 s.f5.length c5, .slice A6 s.f6.length c6, .bool s.f7, .int .i64 s.f8, .slice A9 s.f9.length c9] 45))
  have x2 := blk_cell (j := 2) (v := .string s.f2) HX0.out rfl
  have HB := Aside0.mk hB
  have HB4 := Aside0.mk (show 1 ≤ t.f4 ∧ t.f4 ≤ 60000 by unfold tableB at ht; simp only [Bool.and_eq_true, decide_eq_true_eq] at ht; exact ⟨ht.1, ht.2.1⟩)
  clear hB hL g3 hs hok hba hCi hCc hG hkd
  by_cases hbad : nameB s.f2 = false ∨ s.f3.length < 1 ∨ 8 < s.f3.length
  · have hR : addIndexP t s = (t, 0, 3) := by rw [HI.out, if_pos hbad]
    rw [hR]
    have hbad' : (nameB s.f2 = false) ∨ (nameB s.f2 = true ∧ decide ((s.f3.length : Int) < 1) = true) ∨ (nameB s.f2 = true ∧ decide ((s.f3.length : Int) < 1) = false ∧ decide (8 < (s.f3.length : Int)) = true) := by
      cases hq : nameB s.f2
      · exact .inl rfl
      · rw [hq] at hbad
        by_cases h1 : s.f3.length < 1
        · exact .inr (.inl ⟨rfl, decide_eq_true (by omega)⟩)
        · exact .inr (.inr ⟨rfl, decide_eq_false (by omega), decide_eq_true (by have := hbad.resolve_left (by simp); omega)⟩)
    clear hR HI hbad
    rcases hbad' with h1 | ⟨h1, h2⟩ | ⟨h1, h2, h3⟩
    all_goals
      rw [h1] at HN
      clear h1
      go_enter Tryd.func99, Tryd.ntmps99
      go_wp2_with (go_at_call 33; refine (HN.out _ HBA.out).mono ?_; rintro e w1 ⟨rfl, hb1⟩; have hx1 := blk_below HX0.out hb1; have x3 := blk_cell (j := 3) (v := .slice A3 s.f3.length c3) hx1 rfl; clear hx1)
      go_ret2
      exact ⟨rfl, (HU.out.step hb1).done⟩
  obtain ⟨T, id, er, hTR⟩ : ∃ T id er, addIndexP t s = (T, id, er) := ⟨_, _, _, rfl⟩
  rw [hTR]
  rw [hTR] at HI
  have HI2 := Lib.hid (HI.out.trans (if_neg hbad))
  have hnm : nameB s.f2 = true := by
    cases hq : nameB s.f2
    · exact absurd (.inl hq) hbad
    · rfl
  rw [hnm] at HN
  have hd1 : decide ((s.f3.length : Int) < 1) = false := decide_eq_false (by omega)
  have hd8 : decide (8 < (s.f3.length : Int)) = false := decide_eq_false (by omega)
  have hlo : 1 ≤ s.f3.length := by omega
  have hhi : s.f3.length ≤ 8 := by omega
  clear HI hnm hTR hbad
  go_enter Tryd.func99, Tryd.ntmps99
  go_wp2_with (go_at_call 33; refine (HN.out _ HBA.out).mono ?_; rintro e w1 ⟨rfl, hb1⟩; have hx1 := blk_below HX0.out hb1; have x3 := blk_cell (j := 3) (v := .slice A3 s.f3.length c3) hx1 rfl; have y2 := blk_cell (j := 2) (v := .string s.f2) hx1 rfl; have HX := Aside0.mk hx1; have HU1 := Aside0.mk (HU.out.step hb1); clear hx1 hb1)
  refine (index_calls142 s.f2 false ⟨g, i * 5, none⟩ t.f3 Ai ci w1 (HU1.out.lent.cell 3 rfl) (Kd.R_reads' HU1.out.lent.inds).2.2).mono ?_
  rintro e w2 ⟨rfl, hb2⟩
  have hX2 := blk_below HX.out hb2
  have HX2 := Aside0.mk (show w2.heap[W.heap.size]? = some (.cells BX 45 (0, 0)) by rw [hBX]; exact hX2)
  have HU2 := Aside0.mk (HU1.out.step hb2)
  have hany := xNamed_any s.f2 t.f3
  obtain ⟨ix, hix⟩ : ∃ ix, idxL (xNamed s.f2 false) t.f3 0 = ix := ⟨_, rfl⟩
  rw [hix] at hany ⊢
  have x3 := blk_cell (j := 3) (v := .slice A3 s.f3.length c3) hX2 rfl
  clear HX HX0 HU HU1 y2 HN hd1 hd8 hix hb2 hX2 HBA
  cases hA : t.f3.any (xName s.f2) with
  | true =>
    rw [hA] at hany
    have HR := Lib.hid (show (T, id, er) = (t, 0, 6) by rw [HI2.out, if_pos hA])
    clear hA HI2
    go_wp2
    go_ret2
    obtain ⟨rfl, rfl, rfl⟩ : T = t ∧ id = 0 ∧ er = 6 := by have := HR.out; simp only [Prod.mk.injEq] at this; exact this
    exact ⟨rfl, HU2.out.done⟩
  | false =>
  rw [hA] at hany
  have HI3 := Lib.hid (HI2.out.trans (if_neg (by rw [hA]; simp)))
  have hBW := Aside0.mk (HB.out.trans HU2.out.tch.below)
  clear hA HI2
  go_wp2_with fail
  cases htw : twiceB [] s.f3 with
  | true =>
    refine (twice98_calls s.f3 (by omega) A3 c3 _ l3 (Kd.C_below HC.out hBW.out)).mono ?_
    rintro e w3 ⟨rfl, hb3⟩
    rw [htw]
    have HR := Lib.hid (show (T, id, er) = (t, 0, 6) by rw [HI3.out, if_pos htw])
    clear htw
    go_wp2
    go_ret2
    obtain ⟨rfl, rfl, rfl⟩ : T = t ∧ id = 0 ∧ er = 6 := by have := HR.out; simp only [Prod.mk.injEq] at this; exact this
    exact ⟨rfl, (HU2.out.step hb3).done⟩
  | false =>
    refine (twice98_calls s.f3 (by omega) A3 c3 _ l3 (Kd.C_below HC.out hBW.out)).mono ?_
    rintro e w3 ⟨rfl, hb3⟩
    rw [htw]
    have HI4 := Lib.hid (HI3.out.trans (by rw [htw, if_neg (by simp)]))
    have HU3 := Aside0.mk (HU2.out.step hb3)
    have HX3 := Aside0.mk (blk_below HX2.out hb3)
    have a4 := HU3.out.lent.cell 4 rfl
    have y2 := blk_cell (j := 2) (v := .string s.f2) HX3.out (by rw [hBX]; rfl)
    have y7 := blk_cell (j := 7) (v := .bool s.f7) HX3.out (by rw [hBX]; rfl)
    have hq1 : W.heap.size < w3.heap.size := lt_of_block HX3.out
    obtain ⟨gcs, hgb⟩ := HU3.out.lent.blk
    have hq2 : g < w3.heap.size := lt_of_block hgb
    clear htw hb3 x3 HU2 HX2 HI3 hBW hgb hany
    go_wp2_with fail
    go_region
    have HS0 := Aside0.mk (AddSt.new w3 t.f4 s.f2 s.f7)
    have z3 := blk_cell (j := 3) (v := .slice A3 s.f3.length c3) (blk_below HX3.out HS0.out.below) (by rw [hBX]; rfl)
    go_wp2
    clear a4 y2 y7 z3
    go_loopg [8, 9, 44] s.f3.length (fun gg _ _ u44 wr => ∃ j : Nat, ∃ iv : Value, ∃ ids : List Int, j ≤ s.f3.length ∧ s.f3.length - j ≤ gg ∧ u44 = .int .i64 j ∧ Aside0 (AddSt w3 wr t.f4 s.f2 s.f7 iv ids) ∧ Aside0 (ids.length = j) ∧ Aside0 (idsOf t.f2 s.f3 = (idsOf t.f2 (s.f3.drop j)).map (ids ++ ·)))
    case atStart => exact ⟨0, _, [], Nat.zero_le _, by omega, rfl, HS0, ⟨rfl⟩, ⟨by rw [List.drop_zero]; cases idsOf t.f2 s.f3 <;> rfl⟩⟩
    case round =>
      clear HS0
      obtain ⟨j, iv, ids, hj, hgj, rfl, HS, HJ, HA⟩ := hrel
      obtain ⟨Av, cw, hiv⟩ := Kd.R_slice HS.out.row
      rw [HJ.out] at hiv
      subst hiv
      have HU := Aside0.mk (HU3.out.step HS.out.below)
      by_cases hlt : j < s.f3.length
      · have hltz : (j : Int) < (s.f3.length : Int) := by omega
        have HBW := Aside0.mk (HB.out.trans HU.out.tch.below)
        obtain ⟨a3', eA3, es⟩ := at_str (Kd.C_below HC.out HBW.out) j hlt
        cases eA3
        have hA := HA.out
        rw [List.drop_eq_getElem_cons hlt] at hA
        generalize s.f3[j] = nme at es hA
        obtain ⟨-, hcc, hC⟩ := Kd.R_reads' HU.out.lent.cols
        have HQ := Lib.hid (column_calls143 nme true ⟨g, i * 5, none⟩ t.f2 Ac cc wr (HU.out.lent.cell 2 rfl) hC)
        rw [cNamed_true] at HQ
        clear HA hC
        rcases idxL_at (cShown nme) t.f2 with hix | ⟨k', hk', hix, -⟩
        · have HR := Lib.hid (show (T, id, er) = (t, 0, 5) by rw [HI4.out, hA]; unfold idsOf; rw [hix]; rfl)
          rw [hix] at HQ
          clear hA hix HI4
          go_wp2_with fail
          refine HQ.out.mono ?_
          rintro e w4 ⟨rfl, hb4⟩
          go_wp2
          go_ret2
          obtain ⟨rfl, rfl, rfl⟩ : T = t ∧ id = 0 ∧ er = 5 := by have := HR.out; simp only [Prod.mk.injEq] at this; exact this
          exact ⟨rfl, (HU.out.step hb4).done⟩
        · have hA2 : idsOf t.f2 s.f3 = (idsOf t.f2 (s.f3.drop (j + 1))).map ((ids ++ [(rd_T75 t.f2 (k' : Int)).f0]) ++ ·) := by
            rw [hA]
            show (if idxL (cShown nme) t.f2 0 < 0 then none else (idsOf t.f2 (s.f3.drop (j + 1))).map ((rd_T75 t.f2 (idxL (cShown nme) t.f2 0)).f0 :: ·)).map (ids ++ ·) = _
            rw [hix, if_neg (by omega)]
            cases idsOf t.f2 (s.f3.drop (j + 1)) <;> simp
          rw [hix] at HQ
          have hk2 : (k' : Int) < (t.f2.length : Int) := by omega
          have hk0 : (0 : Int) ≤ (k' : Int) := by omega
          have HA2 := Aside0.mk hA2
          clear hA hix hA2
          go_wp2_with fail
          refine HQ.out.mono ?_
          rintro e wq ⟨rfl, hbq⟩
          have HUq := Aside0.mk (HU.out.step hbq)
          have HSq := Aside0.mk (HS.out.step hbq)
          obtain ⟨-, -, hCq⟩ := Kd.R_reads' HUq.out.lent.cols
          obtain ⟨ac, eA, e0, -⟩ := at_T75 hCq (k' : Int) (by omega) (by omega)
          cases eA
          have hA2 := HA2.out
          generalize (rd_T75 t.f2 (k' : Int)).f0 = ik at e0 hA2
          simp only [Int.toNat_natCast] at e0
          have HA := Aside0.mk hA2
          have b2 := blk_cell (j := 2) (v := .slice Av j cw) HSq.out.box rfl
          have a2 := HUq.out.lent.cell 2 rfl
          have q1 : w3.heap.size < wq.heap.size := lt_of_block HSq.out.box
          have q2 : g < wq.heap.size := World.block_lt_of_cell? wq _ a2
          have q3 : (ac.add (k' * 9)).block < wq.heap.size := World.block_lt_of_cell? wq _ e0
          clear es HQ HS HU hCq HA2 hA2 hbq
          go_wp2_with fail
          go_region_law
            ((refine step_R (Kd.int .i64) (by rfl) (.tmp 54) (.tmp 63) 40 3 (.int .i64 0) 8 (by rfl) Tryd.underlying40 info3 (by rfl) (by decide) (by decide) w3.heap.size (.slice Av j cw) ids ik [.int .i64 ik] (fun _ => True) (fun _ => False) (by rfl) (by repeat (first | exact HSq.out.row | refine Kd.R_drew ?_ | refine Kd.R_alloc ?_ _)) ⟨wq.heap.size, 0, none⟩ (by rfl) (World.news_of_block (cs := #[_]) (t := 3) (fr := (0, 0)) (heap_alloc_new wq _)) rfl (fun _ h => h.elim) (fun _ _ => trivial) (by simp; omega) (by rw [HJ.out]; omega) ?_; intro A1 c1 w1 hr hg1; have hx1 := (hg1.block w3.heap.size (Nat.lt_of_lt_of_le q1 (by simp)) (Kd.R_ne HSq.out.row HSq.out.box (by decide))).trans (blk_alloc HSq.out.box (.cells #[.int .i64 ik] 3)); have d1 := blk_cell (j := 2) (v := .slice Av j cw) hx1 rfl; have f1 := blk_frozen hx1 2))
          all_goals
            have hst := HSq.out.next (below_drew (below_alloc (Below.refl _ _) _)) hg1 hr
            have HN2 := Aside0.mk hst
            clear hst hr hg1 hx1 d1 f1 e0 b2 a2
            go_wp2
            go_roundg (s.f3.length - (j + 1))
            case measure => omega
            case rel => exact ⟨j + 1, _, ids ++ [ik], by omega, by omega, by go_num, HN2, ⟨by rw [List.length_append, HJ.out]; rfl⟩, HA⟩
      · have hltz : ¬ (j : Int) < (s.f3.length : Int) := by omega
        have hA := HA.out
        rw [List.drop_eq_nil_of_le (by omega)] at hA
        have hA2 : idsOf t.f2 s.f3 = some ids := by rw [hA]; simp [idsOf]
        have HI5 := Lib.hid (HI4.out.trans (by rw [hA2]))
        have a3 := HU.out.lent.cell 3 rfl
        have a4 := HU.out.lent.cell 4 rfl
        clear hA hA2 HA HI4
        by_cases h4 : 4 ≤ t.f3.length
        · have hd : ((t.f3.length : Int) == 4) = true := by rw [beq_iff_eq]; omega
          have HR := Lib.hid (show (T, id, er) = (t, 0, 4) by rw [HI5.out]; exact if_pos (.inl h4))
          clear h4 HI5
          go_wp2
          all_goals
            go_ret2
            obtain ⟨rfl, rfl, rfl⟩ : T = t ∧ id = 0 ∧ er = 4 := by have := HR.out; simp only [Prod.mk.injEq] at this; exact this
            exact ⟨rfl, HU.out.done⟩
        have hd : ((t.f3.length : Int) == 4) = false := by rw [beq_eq_false_iff_ne]; omega
        by_cases h6 : 60000 ≤ t.f4
        · have HR := Lib.hid (show (T, id, er) = (t, 0, 4) by rw [HI5.out]; exact if_pos (.inr h6))
          have hd6 : decide (60000 ≤ t.f4) = true := decide_eq_true h6
          clear h4 h6 HI5
          go_wp2
          go_ret2
          obtain ⟨rfl, rfl, rfl⟩ : T = t ∧ id = 0 ∧ er = 4 := by have := HR.out; simp only [Prod.mk.injEq] at this; exact this
          exact ⟨rfl, HU.out.done⟩
        have HI6 := Lib.hid (HI5.out.trans (if_neg (show ¬ (4 ≤ t.f3.length ∨ 60000 ≤ t.f4) by omega)))
        have hd6 : decide (60000 ≤ t.f4) = false := decide_eq_false h6
        have hn0 := HB4.out
        have x0 := blk_cell (j := 0) (v := .int .i64 t.f4) HS.out.box rfl
        have x1 := blk_cell (j := 1) (v := .string s.f2) HS.out.box rfl
        have x2 := blk_cell (j := 2) (v := .slice Av j cw) HS.out.box rfl
        have x3 := blk_cell (j := 3) (v := .bool s.f7) HS.out.box rfl
        have x4 := blk_cell (j := 4) (v := .int .i64 1) HS.out.box rfl
        have hzn : w3.heap.size < wr.heap.size := lt_of_block HS.out.box
        have hgn : g < wr.heap.size := World.block_lt_of_cell? wr _ a3
        have hne : w3.heap.size ≠ g := by omega
        have hne' : g ≠ w3.heap.size := by omega
        have HM := Aside0.mk (k98_mkM wr w0.heap.size (fun k => w3.heap.size ≤ k) ⟨t.f4, s.f2, ids, s.f7, 1⟩ (Kd.R_lower (Kd.R_mono (Kd.R_bound HS.out.row) (fun k hk => hk.2.1)) (Nat.le_trans HU3.out.base HU3.out.tch.size)))
        have HBZ := Aside0.mk (Nat.le_trans HU.out.base HU.out.tch.size)
        clear HI5 h4 h6
        go_wp2_with fail
        go_region_law
          ((refine step_R k98 (by rfl) (.tmp 84) (.tmp 86) 68 98 (.agg #[(.int .i64 0), (.string ⟨#[]⟩), (.slice none 0 0), (.bool false), (.int .i64 0)]) 64 (by rfl) Tryd.underlying68 info98 (by rfl) (by decide) (by decide) w0.heap.size (.slice Ai t.f3.length ci) t.f3 (⟨t.f4, s.f2, ids, s.f7, 1⟩ : S98) [.int .i64 t.f4, .string s.f2, .slice Av j cw, .bool s.f7, .int .i64 1] oki (fun k => w3.heap.size ≤ k) (by rfl) (by repeat (first | exact HU.out.lent.inds | refine Kd.R_drew ?_ | refine Kd.R_alloc ?_ _)) ⟨wr.heap.size, 0, none⟩ (by rfl) (World.news_of_block (cs := #[_, _, _, _, _]) (t := 98) (fr := (0, 0)) (heap_alloc_new wr _)) (by repeat (first | exact HM.out | refine k98.M_below ?_ (below_drew (Below.refl _ _)) | refine k98.M_below ?_ (below_alloc (Below.refl _ _) _))) (fun k hk => ⟨HU3.out.lent.fresh k hk, fun he => Nat.not_lt_of_le hk (Kd.R_lt HU3.out.lent.inds k he.symm)⟩) (fun k hk => HU.out.lent.fresh k (Nat.le_trans (by simp) hk)) (Nat.le_trans HBZ.out (by simp)) (by omega) ?_; intro A1 c1 w1 hr hg1; have hx1 : w1.heap[g]? = wr.heap[g]? := (hg1.block g (Nat.lt_of_lt_of_le hgn (by simp)) (fun e => HU.out.lent.oki_ne g (HU.out.lent.inds.1 g e.symm) rfl)).trans (heap_alloc_old wr _ hgn); have d1 := (cell_same (a := ⟨g, i * 5 + 3, none⟩) hx1).trans a3; have d4 := (cell_same (a := ⟨g, i * 5 + 4, none⟩) hx1).trans a4; have f1 := (frozen_same (a := ⟨g, i * 5 + 3, none⟩) hx1).trans (HU.out.lent.frozen _); have f4 := (frozen_same (a := ⟨g, i * 5 + 4, none⟩) hx1).trans (HU.out.lent.frozen _); have hy1 := (hg1.block w3.heap.size (Nat.lt_of_lt_of_le hzn (by simp)) (fun he => Nat.lt_irrefl _ (Kd.R_lt HU3.out.lent.inds w3.heap.size he.symm))).trans (blk_alloc HS.out.box _); have d0 := blk_cell (j := 0) (v := .int .i64 t.f4) hy1 rfl))
        all_goals
          have HF := Aside0.mk (((HU.out.step (below_drew (below_alloc (Below.refl _ _) _))).setI hg1 hr rfl).setN (t.f4 + 1) rfl)
          clear hr hg1 hx1 hy1 a3 a4 x0 x1 x2 x3 x4
          go_wp2
          go_ret2
          obtain ⟨rfl, rfl, rfl⟩ : T = _ ∧ id = t.f4 ∧ er = 0 := by have := HI6.out; simp only [Prod.mk.injEq] at this; exact this
          exact ⟨rfl, HF.out.done⟩
end Go.Proofs.YtjgomlcdmpcoaaaDoor.H
namespace Go.Proofs.YtjgomlcdmpcoaaaDoor.H
open Go.RowKit Go.Proofs.YtjgomlcdmpcoaaaDoorW.PrintWords Go.Proofs.YtjgomlcdmpcoaaaDoorW.PrintLast Go.Proofs.YtjgomlcdmpcoaaaDoorW.PrintMore
open Go.Proofs.YtjgomlcdmpcoaaaDoor.D Go.Proofs.YtjgomlcdmpcoaaaDoor
set_option linter.unusedVariables false
set_option linter.unusedSimpArgs false
structure ColSt (w2 wz : World) (n4 : Int) (nm_ : ByteArray) (kd : Int) (d : S73) : Prop where
  below : Below w2.heap.size w2 wz
  box : wz.heap[w2.heap.size]? = some (.cells #[.int .i64 n4, .string nm_, .int .i64 kd, .int .i64 1, .int .i64 0, .int .i64 d.f0, .int .i64 d.f1, .int .u64 d.f2, .string d.f3] 75 (0, 0))
theorem ColSt.new (w2 : World) (n4 : Int) (nm_ : ByteArray) (kd : Int) : ColSt w2 (w2.alloc (.cells #[.int .i64 n4, .string nm_, .int .i64 kd, .int .i64 1, .int .i64 0, .int .i64 0, .int .i64 0, .int .u64 0, .string ⟨#[]⟩] 75)).drew n4 nm_ kd ⟨0, 0, 0, ⟨#[]⟩⟩ :=
  ⟨below_drew (below_alloc (Below.refl _ _) _), heap_alloc_new w2 _⟩
theorem ColSt.step {w2 wz W : World} {n4 : Int} {nm_ : ByteArray} {kd : Int} {d : S73} (h : ColSt w2 wz n4 nm_ kd d) (hb : Below wz.heap.size wz W) : ColSt w2 W n4 nm_ kd d :=
  ⟨below_then h.below h.below.size hb, blk_below h.box hb⟩
theorem ColSt.put {w2 wz : World} {n4 : Int} {nm_ : ByteArray} {kd : Int} {d : S73} (h : ColSt w2 wz n4 nm_ kd d) (e : S73) :
    ColSt w2 ((((wz.setCell ⟨w2.heap.size, 5, none⟩ (.int .i64 e.f0)).setCell ⟨w2.heap.size, 6, none⟩ (.int .i64 e.f1)).setCell ⟨w2.heap.size, 7, none⟩ (.int .u64 e.f2)).setCell ⟨w2.heap.size, 8, none⟩ (.string e.f3)) n4 nm_ kd e :=
  ⟨(((h.below.setCell (p := ⟨w2.heap.size, 5, none⟩) (Nat.le_refl _) _).setCell (p := ⟨w2.heap.size, 6, none⟩) (Nat.le_refl _) _).setCell (p := ⟨w2.heap.size, 7, none⟩) (Nat.le_refl _) _).setCell (p := ⟨w2.heap.size, 8, none⟩) (Nat.le_refl _) _,
    blk_put (blk_put (blk_put (blk_put h.box 5 (.int .i64 e.f0) rfl) 6 (.int .i64 e.f1) rfl) 7 (.int .u64 e.f2) rfl) 8 (.string e.f3) rfl⟩
end Go.Proofs.YtjgomlcdmpcoaaaDoor.H

namespace Go.Proofs.YtjgomlcdmpcoaaaDoor.H
open Go.RowKit Go.Proofs.YtjgomlcdmpcoaaaDoorW.PrintWords Go.Proofs.YtjgomlcdmpcoaaaDoorW.PrintLast Go.Proofs.YtjgomlcdmpcoaaaDoorW.PrintMore
open Go.Proofs.YtjgomlcdmpcoaaaDoor.D Go.Proofs.YtjgomlcdmpcoaaaDoor
set_option linter.unusedVariables false
set_option linter.unusedSimpArgs false
def beginsM : Array MapEntry := #[ent 6 99 0, ent 8 100 1, ent 7 101 2, ent 9 102 3, ent 10 103 4, ent 11 104 5]
theorem zero138 (w : World) : (zeroValue 138).run Tryd.prog w = .ok .nilFunc w := by kernel_rfl
theorem begins_made (W : World) (r : Nat) (h : W.heap[r]? = some (.map #[] 0)) :
    ∃ W1 W2 W3 W4 W5 W6 : World, (Instr.mapUpdate 139 (.map (some r)) (.int .i64 6) (.func (.func 99) #[] #[])).run Tryd.prog W = .ok () W1 ∧ (Instr.mapUpdate 139 (.map (some r)) (.int .i64 8) (.func (.func 100) #[] #[])).run Tryd.prog W1 = .ok () W2 ∧
      (Instr.mapUpdate 139 (.map (some r)) (.int .i64 7) (.func (.func 101) #[] #[])).run Tryd.prog W2 = .ok () W3 ∧ (Instr.mapUpdate 139 (.map (some r)) (.int .i64 9) (.func (.func 102) #[] #[])).run Tryd.prog W3 = .ok () W4 ∧
      (Instr.mapUpdate 139 (.map (some r)) (.int .i64 10) (.func (.func 103) #[] #[])).run Tryd.prog W4 = .ok () W5 ∧ (Instr.mapUpdate 139 (.map (some r)) (.int .i64 11) (.func (.func 104) #[] #[])).run Tryd.prog W5 = .ok () W6 ∧
      W6.heap[r]? = some (.map beginsM 6) ∧ W.grownBy W6 (some r) := by
  obtain ⟨W1, e1, h1, g1⟩ := run_put 6 (.func (.func 99) #[] #[]) Tryd.underlying139 Tryd.underlying3 h rfl
  obtain ⟨W2, e2, h2, g2⟩ := run_put 8 (.func (.func 100) #[] #[]) Tryd.underlying139 Tryd.underlying3 h1 rfl
  obtain ⟨W3, e3, h3, g3⟩ := run_put 7 (.func (.func 101) #[] #[]) Tryd.underlying139 Tryd.underlying3 h2 rfl
  obtain ⟨W4, e4, h4, g4⟩ := run_put 9 (.func (.func 102) #[] #[]) Tryd.underlying139 Tryd.underlying3 h3 rfl
  obtain ⟨W5, e5, h5, g5⟩ := run_put 10 (.func (.func 103) #[] #[]) Tryd.underlying139 Tryd.underlying3 h4 rfl
  obtain ⟨W6, e6, h6, g6⟩ := run_put 11 (.func (.func 104) #[] #[]) Tryd.underlying139 Tryd.underlying3 h5 rfl
  exact ⟨W1, W2, W3, W4, W5, W6, e1, e2, e3, e4, e5, e6, h6, ((((g1.trans g2).trans g3).trans g4).trans g5).trans g6⟩
def beginner (kind : Int) : Value := if kind = 6 then .func (.func 99) #[] #[] else if kind = 8 then .func (.func 100) #[] #[] else if kind = 7 then .func (.func 101) #[] #[] else if kind = 9 then .func (.func 102) #[] #[] else if kind = 10 then .func (.func 103) #[] #[] else if kind = 11 then .func (.func 104) #[] #[] else .nilFunc
theorem begins_look {W : World} {r : Nat} (h : W.heap[r]? = some (.map beginsM 6)) (kind : Int) : (Instr.lookup 139 (.map (some r)) (.int .i64 kind) false).run Tryd.prog W = .ok (beginner kind) W := by
  by_cases h6 : kind = 6
  · subst h6; exact run_look (i := 0) Tryd.underlying139 Tryd.underlying3 h rfl rfl
  by_cases h8 : kind = 8
  · subst h8; exact run_look (i := 1) Tryd.underlying139 Tryd.underlying3 h rfl rfl
  by_cases h7 : kind = 7
  · subst h7; exact run_look (i := 2) Tryd.underlying139 Tryd.underlying3 h rfl rfl
  by_cases h9 : kind = 9
  · subst h9; exact run_look (i := 3) Tryd.underlying139 Tryd.underlying3 h rfl rfl
  by_cases h10 : kind = 10
  · subst h10; exact run_look (i := 4) Tryd.underlying139 Tryd.underlying3 h rfl rfl
  by_cases h11 : kind = 11
  · subst h11; exact run_look (i := 5) Tryd.underlying139 Tryd.underlying3 h rfl rfl
  have hf : beginner kind = .nilFunc := by unfold beginner; rw [if_neg h6, if_neg h8, if_neg h7, if_neg h9, if_neg h10, if_neg h11]
  rw [hf]
  refine run_miss Tryd.underlying139 Tryd.underlying3 h rfl ?_ (zero138 W)
  have b6 : (kind == 6) = false := by simpa using h6
  have b7 : (kind == 7) = false := by simpa using h7
  have b8 : (kind == 8) = false := by simpa using h8
  have b9 : (kind == 9) = false := by simpa using h9
  have b10 : (kind == 10) = false := by simpa using h10
  have b11 : (kind == 11) = false := by simpa using h11
  simp [beginsM, ent, Instr.findNow, Instr.sameNow, b6, b7, b8, b9, b10, b11]
theorem nxtE_neB {v : Int} {ts : List S70} {nx : Int} (h : nxtE v ts nx ≠ 0) (f : S70 → S45 → S70 × Int × Int) (s : S45) : beginP f v ts nx s = noTold (nxtE v ts nx) := by
  unfold nxtE at h ⊢
  unfold beginP
  by_cases h1 : schB v ts nx = false
  · rw [if_pos h1, if_pos h1]
  · rw [if_neg h1] at h ⊢
    rw [if_neg h1]
    by_cases h2 : 1099511627775 ≤ v
    · rw [if_pos h2, if_pos h2]
    · rw [if_neg h2] at h
      exact absurd rfl h
theorem nxtE_eqB {v : Int} {ts : List S70} {nx : Int} (h : nxtE v ts nx = 0) : schB v ts nx = true ∧ ¬ 1099511627775 ≤ v := by
  unfold nxtE at h
  by_cases h1 : schB v ts nx = false
  · rw [if_pos h1] at h; cases h
  · rw [if_neg h1] at h
    refine ⟨by simpa using h1, fun h2 => ?_⟩
    rw [if_pos h2] at h
    cases h
theorem nxtE_okB {v : Int} {ts : List S70} {nx : Int} (h : nxtE v ts nx = 0) (f : S70 → S45 → S70 × Int × Int) (s : S45) : beginP f v ts nx s = if s.f0 < 6 ∨ 11 < s.f0 then noTold 1
  else if idxL (tName s.f1) ts 0 < 0 then noTold 5
  else if (f (rd_T70 ts (idxL (tName s.f1) ts 0)) s).2.2 ≠ 0 then noTold (f (rd_T70 ts (idxL (tName s.f1) ts 0)) s).2.2
  else ⟨v + 1, ts.set (idxL (tName s.f1) ts 0).toNat (f (rd_T70 ts (idxL (tName s.f1) ts 0)) s).1, nx, (f (rd_T70 ts (idxL (tName s.f1) ts 0)) s).1.f0, (f (rd_T70 ts (idxL (tName s.f1) ts 0)) s).2.1, 0⟩ := by
  obtain ⟨h1, h2⟩ := nxtE_eqB h
  unfold beginP
  rw [if_neg (by rw [h1]; simp), if_neg h2]
theorem eql_nil138 (w : World) : (binOp BinOp.eql 138 Value.nilFunc Value.nilFunc).run Tryd.prog w = .ok (.bool true) w := by kernel_rfl
set_option maxRecDepth 100000 in
set_option maxHeartbeats 8000000 in
theorem beginG_of (F : Nat) (f : S70 → S45 → S70 × Int × Int) (v : Int) (ts : List S70) (nx : Int) (s : S45)
    (hF : (beginner s.f0 = .nilFunc ∧ (s.f0 < 6 ∨ 11 < s.f0)) ∨ (beginner s.f0 = .func (.func F) #[] #[] ∧ UpdK F s.f0 f ∧ ¬ (s.f0 < 6 ∨ 11 < s.f0) ∧ (∀ args w, (callFunc F args).run Tryd.prog w = .ok (.enter F args) w) ∧ ∀ w, (binOp BinOp.eql 138 (Value.func (Fn.func F) #[] #[]) Value.nilFunc).run Tryd.prog w = .ok (.bool false) w))
    (hwf : ∀ t ∈ ts, TabWf t) (hv64 : -9223372036854775808 ≤ v ∧ v < 9223372036854775808) (A : Option Addr) (c : Nat) (w : World) (hG : GL w) (hc : ts.length ≤ c) (hC : k70.C w A ts.length ts) (cs : List Value) (hs : k45.K w s cs) (hok : StmtOk s) :
    Calls Tryd.prog 51 #[.agg #[.int .i64 v, .slice A ts.length c, .int .i64 nx], .agg cs.toArray] w (Tells w (beginP f v ts nx s)) := by
  obtain ⟨A3, c3, A4, c4, A5, c5, A6, c6, A9, c9, rfl, -⟩ := k45_open hs
  obtain ⟨w0, hw0⟩ : ∃ w0, w0 = ((w.alloc (.cells #[.int .i64 v, .slice A ts.length c, .int .i64 nx] 28)).alloc (.cells #[.int .i64 s.f0, .string s.f1, .string s.f2, .slice A3 s.f3.length c3, .slice A4 s.f4.length c4, .slice A5 s.f5.length c5, .slice A6 s.f6.length c6, .bool s.f7, .int .i64 s.f8, .slice A9 s.f9.length c9] 45)).alloc (.cells #[.int .i64 0, .slice none 0 0, .int .i64 0] 28) := ⟨_, rfl⟩
  have hX0 : Bxs w w0 #[.int .i64 v, .slice A ts.length c, .int .i64 nx] #[.int .i64 s.f0, .string s.f1, .string s.f2, .slice A3 s.f3.length c3, .slice A4 s.f4.length c4, .slice A5 s.f5.length c5, .slice A6 s.f6.length c6, .bool s.f7, .int .i64 s.f8, .slice A9 s.f9.length c9] := by rw [hw0]; exact Bxs.new w _ _
  have HM := Lib.hid (cnext_calls v ts nx hwf hv64 A c w0 (hG.of_below hX0.below) hc (Kd.C_below hC hX0.below))
  have HSK := Aside0.mk hs
  have HGL := Lib.hid hG
  have HOK := Lib.hid hok
  have hx0 := blk_cell (j := 0) (v := .int .i64 v) hX0.b0 rfl
  have hx1 := blk_cell (j := 1) (v := .slice A ts.length c) hX0.b0 rfl
  have hx2 := blk_cell (j := 2) (v := .int .i64 nx) hX0.b0 rfl
  have HX0 := Aside0.mk hX0
  have HW0 := Lib.hid hw0
  rw [hw0] at HM hx0 hx1 hx2
  obtain ⟨R, hR⟩ : ∃ R, beginP f v ts nx s = R := ⟨_, rfl⟩
  rw [hR]
  clear hX0 hC hG hwf hw0 hs hok
  by_cases hn : nxtE v ts nx = 0
  rotate_left
  · have HR := Lib.hid (show R = noTold (nxtE v ts nx) by rw [← hR, nxtE_neB hn])
    obtain ⟨er, her⟩ : ∃ er, nxtE v ts nx = er := ⟨_, rfl⟩
    rw [her] at HR hn
    have hq : (er != 0) = true := by simpa using hn
    have HER := Lib.hid her
    clear hR her hF
    go_enter Tryd.func51, Tryd.ntmps51
    go_wp2_with fail
    refine HM.out.mono ?_
    rw [← HW0.out]
    rintro e w1 ⟨hb1, ⟨-, rfl⟩ | ⟨h, -⟩⟩
    rotate_left
    · exact absurd (HER.out.symm.trans h) hn
    rw [HER.out]
    have HX1 := Aside0.mk ((HX0.out.step hb1).step (below_alloc (Below.refl _ w1) (.cells #[.int .i64 0, .slice none 0 0, .int .i64 0] 28)))
    have f0 := blk_frozen (HX0.out.step hb1).b2 0
    have f1 := blk_frozen (HX0.out.step hb1).b2 1
    have f2 := blk_frozen (HX0.out.step hb1).b2 2
    have c0 := blk_cell (j := 0) (v := .int .i64 0) (HX0.out.step hb1).b2 rfl
    have c1 := blk_cell (j := 1) (v := .slice none 0 0) (HX0.out.step hb1).b2 rfl
    have c2 := blk_cell (j := 2) (v := .int .i64 0) (HX0.out.step hb1).b2 rfl
    have hx3 := lt_of_block (HX0.out.step hb1).b2
    have hz := blk_alloc (blk_put (blk_put (blk_put (HX0.out.step hb1).b2 0 (.int .i64 0) rfl) 1 (.slice none 0 0) rfl) 2 (.int .i64 0) rfl) (.cells #[.int .i64 0, .slice none 0 0, .int .i64 0] 28)
    have hbz := below_alloc ((HX0.out.step hb1).out (.int .i64 0) (.slice none 0 0) (.int .i64 0)) (.cells #[.int .i64 0, .slice none 0 0, .int .i64 0] 28)
    have HBZ := Aside0.mk (And.intro hz hbz)
    clear hb1 hx0 hx1 hx2 hz hbz
    go_wp2
    refine bodyPost_ret (v := .tuple #[.agg #[.int .i64 0, .slice none 0 0, .int .i64 0], .int .i64 0, .int .i64 0, .int .i64 er]) (by have r0 := blk_cell (j := 0) (v := .int .i64 0) HBZ.out.1 rfl; have r1 := blk_cell (j := 1) (v := .slice none 0 0) HBZ.out.1 rfl; have r2 := blk_cell (j := 2) (v := .int .i64 0) HBZ.out.1 rfl; simp [results, Tryd.results51, go_sem, r0, r1, r2]) rfl (tells_no HR.out HBZ.out.2)
  have HN := Lib.hid hn
  have HI := Lib.hid (hR.symm.trans (nxtE_okB hn f s))
  have HSC := Lib.hid (nxtE_eqB hn).1
  obtain ⟨bg, hbg⟩ : ∃ bg, beginner s.f0 = bg := ⟨_, rfl⟩
  have HBG := Lib.hid hbg
  rw [hbg] at hF
  have hmm := @run_makeMap Tryd.prog
  have hmf : ∀ (fn : Fn) (first cap : Array Value) (w : World), (Instr.makeFunc fn first cap).run Tryd.prog w = .ok (.func fn first cap) w := fun _ _ _ _ => rfl
  have HFF := Lib.hid hF
  clear hR hn hF hbg
  go_enter Tryd.func51, Tryd.ntmps51
  go_wp2_with fail
  refine HM.out.mono ?_
  rw [← HW0.out]
  rintro e w1 ⟨hb1, ⟨h, -⟩ | ⟨-, u, rfl, hS⟩⟩
  · exact absurd HN.out h
  have hS' := Kd.S_lower hS HX0.out.below.size
  obtain ⟨Au, cu, rfl⟩ := Kd.S_slice hS'
  have hX1 := HX0.out.step hb1
  have HN2 := lt_of_block hX1.b2
  have hX2 := hX1.step (below_alloc (Below.refl _ w1) (.cells #[.int .i64 (v + 1), .slice Au ts.length cu, .int .i64 nx] 28))
  have hX3 := hX2.step (below_alloc (Below.refl _ _) (.map #[] 0))
  have hZ := heap_alloc_new w1 (.cells #[.int .i64 (v + 1), .slice Au ts.length cu, .int .i64 nx] 28)
  obtain ⟨W0, hW0⟩ : ∃ W0, W0 = (w1.alloc (.cells #[.int .i64 (v + 1), .slice Au ts.length cu, .int .i64 nx] 28)).alloc (.map #[] 0) := ⟨_, rfl⟩
  have hm0 : W0.heap[w1.heap.size + 1]? = some (.map #[] 0) := by
    have := heap_alloc_new (w1.alloc (.cells #[.int .i64 (v + 1), .slice Au ts.length cu, .int .i64 nx] 28)) (.map #[] 0)
    rw [hW0]
    simpa using this
  have hZ0 : W0.heap[w1.heap.size]? = some (.cells #[.int .i64 (v + 1), .slice Au ts.length cu, .int .i64 nx] 28 (0, 0)) := by rw [hW0]; exact blk_alloc hZ _
  obtain ⟨W1, W2, W3, W4, W5, W6, i1, i2, i3, i4, i5, i6, hm6, hg6⟩ := begins_made W0 (w1.heap.size + 1) hm0
  rw [← hW0] at hX3
  have hbB : Below w1.heap.size w1 W6 := (show Below w1.heap.size w1 W0 by rw [hW0]; exact below_alloc (below_alloc (Below.refl _ _) _) _).grown hg6 (by rw [hW0]; simp; omega) (fun k hk => by injection hk with hk; omega)
  have hX6 := hX1.step hbB
  have hZ6 : W6.heap[w1.heap.size]? = some (.cells #[.int .i64 (v + 1), .slice Au ts.length cu, .int .i64 nx] 28 (0, 0)) := (hg6.block _ (blk_lt hZ0) (fun e => by injection e with e; omega)).trans hZ0
  have hS6 := Kd.S_below hS' hbB
  have hlook := begins_look hm6 s.f0
  rw [HBG.out] at hlook
  have hx6 := blk_cell (j := 1) (v := .slice Au ts.length cu) hZ6 rfl
  have hs6 := blk_cell (j := 0) (v := .int .i64 s.f0) hX6.b1 rfl
  have HQ := Lib.hid (idx70 106 #[.pointer (some ⟨w.heap.size + 1, 0, none⟩)] enters106 (fun x => x.f1.toList == s.f1.toList) Au cu ts W6 (Kd.S_reads' hS6).2.2 (pred106 s.f1 (w.heap.size + 1) W6 (lt_of_block hX6.b1) (blk_cell hX6.b1 rfl)))
  rw [tName_same] at HQ
  obtain ⟨ix, hix⟩ : ∃ ix, idxL (tName s.f1) ts 0 = ix := ⟨_, rfl⟩
  have hia := idxL_at (tName s.f1) ts
  have hHI := HI.out
  rw [hix] at HQ hia hHI
  have HI2 := Lib.hid hHI
  have HX6 := Aside0.mk hX6
  have HZ6 := Aside0.mk hZ6
  have HS6 := Aside0.mk hS6
  rw [hW0] at i1
  clear hb1 hS hS' hX1 hX2 hX3 hZ hm0 hZ0 hm6 hg6 hbB hX6 hZ6 hS6 hix hHI HI hW0 hx0 hx1 hx2
  go_wp2_with fail
  refine HQ.out.mono ?_
  rintro e w7 ⟨rfl, hb7⟩
  have HX7 := Aside0.mk (HX6.out.step hb7)
  have HZ7 := Aside0.mk (blk_below HZ6.out hb7)
  have HS7 := Aside0.mk (Kd.S_below HS6.out hb7)
  have f0 := blk_frozen HX7.out.b2 0
  have f1 := blk_frozen HX7.out.b2 1
  have f2 := blk_frozen HX7.out.b2 2
  have c0 := blk_cell (j := 0) (v := .int .i64 0) HX7.out.b2 rfl
  have c1 := blk_cell (j := 1) (v := .slice none 0 0) HX7.out.b2 rfl
  have c2 := blk_cell (j := 2) (v := .int .i64 0) HX7.out.b2 rfl
  clear hb7 i1 i2 i3 i4 i5 i6 hlook HX6 HZ6 HS6 HQ hmm hmf hx6 hs6
  rcases HFF.out with ⟨rfl, hkind⟩ | ⟨rfl, hU, hkind, hen, heq⟩
  · have HR := Lib.hid (show R = noTold 1 by rw [HI2.out, if_pos hkind])
    have hnil := eql_nil138
    clear HFF hkind HI2
    go_wp2
    refine bodyPost_ret (v := .tuple #[.agg #[.int .i64 0, .slice none 0 0, .int .i64 0], .int .i64 0, .int .i64 0, .int .i64 1]) (by simp [results, Tryd.results51, go_sem, c0, c1, c2]) rfl (tells_no HR.out (HX7.out.out _ _ _))
  have HI3 := Lib.hid (HI2.out.trans (if_neg hkind))
  have HU := Lib.hid hU
  have HE := Lib.hid hen
  clear HFF hkind HI2 hU hen
  rcases hia with rfl | ⟨k, hk, rfl, -⟩
  · have HR := Lib.hid (show R = noTold 5 by rw [HI3.out]; rfl)
    clear HI3
    go_wp2
    refine bodyPost_ret (v := .tuple #[.agg #[.int .i64 0, .slice none 0 0, .int .i64 0], .int .i64 0, .int .i64 0, .int .i64 5]) (by simp [results, Tryd.results51, go_sem, c0, c1, c2]) rfl (tells_no HR.out (HX7.out.out _ _ _))
  have HI5 := Lib.hid (HI3.out.trans (if_neg (by omega)))
  have hk0 : (0 : Int) ≤ (k : Int) := by omega
  have hkl : (k : Int) < (ts.length : Int) := by omega
  obtain ⟨g, cap, hgv, -⟩ := Kd.S_form HS7.out (by omega)
  obtain ⟨rfl, rfl⟩ : Au = some ⟨g, 0, none⟩ ∧ cu = cap := by injection hgv with h1 _ h2; exact ⟨h1, h2⟩
  have y1 := blk_cell (j := 1) (v := .slice (some ⟨g, 0, none⟩) ts.length cu) HZ7.out rfl
  have s0 := blk_cell (j := 0) (v := .int .i64 s.f0) HX7.out.b1 rfl
  have s1 := blk_cell (j := 1) (v := .string s.f1) HX7.out.b1 rfl
  have s2 := blk_cell (j := 2) (v := .string s.f2) HX7.out.b1 rfl
  have s3 := blk_cell (j := 3) (v := .slice A3 s.f3.length c3) HX7.out.b1 rfl
  have s4 := blk_cell (j := 4) (v := .slice A4 s.f4.length c4) HX7.out.b1 rfl
  have s5 := blk_cell (j := 5) (v := .slice A5 s.f5.length c5) HX7.out.b1 rfl
  have s6 := blk_cell (j := 6) (v := .slice A6 s.f6.length c6) HX7.out.b1 rfl
  have s7 := blk_cell (j := 7) (v := .bool s.f7) HX7.out.b1 rfl
  have s8 := blk_cell (j := 8) (v := .int .i64 s.f8) HX7.out.b1 rfl
  have s9 := blk_cell (j := 9) (v := .slice A9 s.f9.length c9) HX7.out.b1 rfl
  obtain ⟨oki, cv, iv, hL⟩ := lend (Kd.S_drew HS7.out) hk
  have HTB := Lib.hid (schB_tab HSC.out _ (List.getElem_mem hk))
  have HUU := Lib.hid (HU.out w w7.drew g ts.length cu ts k oki ts[k] cv iv s _ HGL.out (below_drew HX7.out.below) hL HTB.out HSK.out HOK.out rfl)
  obtain ⟨t', id, er, hf⟩ : ∃ t' id er, f ts[k] s = (t', id, er) := ⟨_, _, _, rfl⟩
  have HI6 := HI5.out
  rw [rd70 _ _ hk, hf, Int.toNat_natCast] at HI6
  rw [hf] at HUU
  have HI7 := Lib.hid HI6
  clear hgv hL hf HI5 HI6 HI3 HU
  go_wp2_with fail
  clear f0 f1 f2 c0 c1 c2
  go_region_law ((go_simp; rw [HE.out, Oper.upon_enter]; refine HUU.out.mono ?_; rintro e w8 ⟨rfl, hS8, hT8⟩))
  all_goals
    have hTT : Tch w.heap.size w7 w8 := (Tch.of_below (below_drew (Below.refl _ w7)) HX7.out.below.size).trans hT8
    have HX8 := Aside0.mk (HX7.out.tch hTT)
    have HZ8 := Aside0.mk (hTT.box HZ7.out)
    have HS8 := Aside0.mk hS8
    have f0 := blk_frozen HX8.out.b2 0
    have f1 := blk_frozen HX8.out.b2 1
    have f2 := blk_frozen HX8.out.b2 2
    have c0 := blk_cell (j := 0) (v := .int .i64 0) HX8.out.b2 rfl
    have c1 := blk_cell (j := 1) (v := .slice none 0 0) HX8.out.b2 rfl
    have c2 := blk_cell (j := 2) (v := .int .i64 0) HX8.out.b2 rfl
    clear s0 s1 s2 s3 s4 s5 s6 s7 s8 s9 hS8 hT8 hTT HUU y1
    by_cases her : er = 0
    · subst her
      have HR := Lib.hid (HI7.out.trans (if_neg (by simp)))
      have y0 := blk_cell (j := 0) (v := .int .i64 (v + 1)) HZ8.out rfl
      have y1 := blk_cell (j := 1) (v := .slice (some ⟨g, 0, none⟩) ts.length cu) HZ8.out rfl
      have y2 := blk_cell (j := 2) (v := .int .i64 nx) HZ8.out rfl
      obtain ⟨oki6, cv6, iv6, hL6⟩ := lend HS8.out (by rw [List.length_set]; exact hk)
      rw [List.getElem_set_self] at hL6
      have t0 : w8.cell? ⟨g, k * 5, none⟩ = some (.int .i64 t'.f0) := hL6.cell 0 rfl
      obtain ⟨gcs, hgb⟩ := hL6.blk
      have n1 : ¬ g = w.heap.size + 1 + 1 := blk_ne hgb HX8.out.b2 (by decide)
      have n2 : ¬ w1.heap.size = w.heap.size + 1 + 1 := by omega
      clear hL6 hgb HI7
      go_wp2_with fail
      go_region
      all_goals
        go_wp2
        refine bodyPost_ret (v := .tuple #[.agg #[.int .i64 (v + 1), .slice (some ⟨g, 0, none⟩) ts.length cu, .int .i64 nx], .int .i64 t'.f0, .int .i64 id, .int .i64 0]) (by simp [results, Tryd.results51, go_sem, c0, c1, c2]) rfl ?_
        have hfin := tells_ok (w := w) (R := R) (v := v + 1) (nx := nx) (table := t'.f0) (elem := id) (ts := ts.set k t') (cap := cu) (g := g) (by rw [HR.out]) (Kd.S_drew (S_set3 (by rw [List.length_set]; exact HS8.out) HX8.out.b2)) (below_drew (HX8.out.out (.int .i64 (v + 1)) (.slice (some ⟨g, 0, none⟩) (ts.set k t').length cu) (.int .i64 nx)))
        rw [List.length_set] at hfin
        exact hfin
    · have hd : (er != 0) = true := by simpa using her
      have HR := Lib.hid (show R = noTold er by rw [HI7.out]; exact if_pos her)
      clear HI7 her
      go_wp2
      refine bodyPost_ret (v := .tuple #[.agg #[.int .i64 0, .slice none 0 0, .int .i64 0], .int .i64 0, .int .i64 0, .int .i64 er]) (by simp [results, Tryd.results51, go_sem, c0, c1, c2]) rfl (tells_no HR.out (HX8.out.out _ _ _))
theorem enters99 (args : Array Value) (w : World) : (callFunc 99 args).run Tryd.prog w = .ok (.enter 99 args) w := enters Tryd.func99 (by kernel_rfl) rfl args w
theorem eql_f99 (w : World) : (binOp BinOp.eql 138 (Value.func (Fn.func 99) #[] #[]) Value.nilFunc).run Tryd.prog w = .ok (.bool false) w := by kernel_rfl
end Go.Proofs.YtjgomlcdmpcoaaaDoor.H
namespace Go.Proofs.YtjgomlcdmpcoaaaDoor.H
open Go.RowKit Go.Proofs.YtjgomlcdmpcoaaaDoorW.PrintWords Go.Proofs.YtjgomlcdmpcoaaaDoorW.PrintLast Go.Proofs.YtjgomlcdmpcoaaaDoorW.PrintMore
open Go.Proofs.YtjgomlcdmpcoaaaDoor.D Go.Proofs.YtjgomlcdmpcoaaaDoor
set_option linter.unusedVariables false
set_option linter.unusedSimpArgs false
section
variable {α : Type} {d : Kd α} {e : TypeId} {W : World} {base g m c : Nat} {ok : Nat → Prop} {xs : List α}
theorem R_tail1 (h : d.R e W base ok (.slice (some ⟨g, 0, none⟩) m c) xs) (o : Nat) (ho : m * d.sz ≤ o) (u : Value) : d.R e (W.setCell ⟨g, o, none⟩ u) base ok (.slice (some ⟨g, 0, none⟩) m c) xs := by
  have hm := (Kd.R_reads' h).1
  obtain ⟨h0, inner, hown, hr⟩ := h
  refine ⟨h0, inner, ?_, hr.1, fun j p hj => ?_⟩
  · obtain ⟨hl, hq⟩ := hown
    refine ⟨hl, ?_⟩
    rcases hq with ⟨hq, _⟩ | ⟨g', cap, cur, hv, hb, hh, h1, h2, h3, h4⟩
    · cases hq
    · injection hv with ha hb' hc'
      injection ha with ha
      injection ha with ha
      subst ha
      refine .inr ⟨g, cap, cur.setIfInBounds o u, by rw [hc', hb'], hb, blk_put hh o u rfl, h1, h2, by simpa using h3, ?_⟩
      rw [← h4]
      rw [Array.toList_setIfInBounds, List.take_set_of_le (by rw [← hm]; exact ho)]
  · exact Kd.M_far (hr.2 j p hj) (p := ⟨g, o, none⟩) (fun k hk e => hk.2 (by rw [e]; simp [Value.ownBlock])) u
theorem R_tails : ∀ (vs : List Value) (o : Nat) (W : World), d.R e W base ok (.slice (some ⟨g, 0, none⟩) m c) xs → m * d.sz ≤ o → d.R e (W.setCells g o vs) base ok (.slice (some ⟨g, 0, none⟩) m c) xs
  | [], _, _, h, _ => h
  | v :: r, o, W, h, ho => R_tails r (o + 1) _ (R_tail1 h o ho v) (by omega)
theorem keep_sets : ∀ (vs : List Value) (o : Nat) (W : World), (∀ k, k < W.heap.size → k ≠ g → (W.setCells g o vs).heap[k]? = W.heap[k]?) ∧ Below g W (W.setCells g o vs) ∧ W.heap.size = (W.setCells g o vs).heap.size
  | [], _, _ => ⟨fun _ _ _ => rfl, Below.refl _ _, rfl⟩
  | v :: r, o, W => by
    have h1 := keep_sets r (o + 1) (W.setCell ⟨g, o, none⟩ v)
    have h2 : (W.setCell ⟨g, o, none⟩ v).heap.size = W.heap.size := by simp [World.setCell]
    refine ⟨fun k hk hne => (h1.1 k (by omega) hne).trans (Below.heap_setCell W ⟨g, o, none⟩ v k hne), ((Below.refl _ _).setCell (p := ⟨g, o, none⟩) (Nat.le_refl _) v).trans h1.2.1, ?_⟩
    rw [← h2]
    exact h1.2.2
end
theorem clear_one {P : Program} (w : World) (t e ty : TypeId) (z : Value) (ht : P.underlying t = some (.slice e)) (hv : ∀ w, (zeroValue e).run P w = .ok z w) (b o c : Nat)
    (hc : ∀ j, j < z.cells.size → (w.cell? ⟨b, o + j, none⟩).isSome = true) (hf : ∀ j, j < z.cells.size → w.frozen? ⟨b, o + j, none⟩ = false) (h1 : ∀ v ∈ z.cells.toList, v.oneCell' = true) (n : Nat) (hn : n = 1) :
    (Builtin.clear_ #[t] ty #[.slice (some ⟨b, o, none⟩) n c]).run P w = .ok (.tuple #[]) (w.setCells b o z.cells.toList) := by
  subst hn
  have hzc : (Builtin.zeroCells z.cells 1).toList = z.cells.toList := by
    simp [Builtin.zeroCells]
    apply List.ext_getElem
    · simp
    · intro i h1 h2
      simp at h1 h2
      simp [Nat.mod_eq_of_lt h2, getElem!_pos z.cells i h2]
  have hst := run_storeCells_cells (P := P) b o z.cells.toList 0 w (by simpa using hc) (by simpa using hf) h1
  simp only [Nat.add_zero] at hst
  simp [Builtin.clear_, run_underlying ht, hv, hzc, hst]
theorem zeroV98 (w : World) : (zeroValue 98).run Tryd.prog w = .ok (.agg #[.int .i64 0, .string ⟨#[]⟩, .slice none 0 0, .bool false, .int .i64 0]) w := by kernel_rfl
theorem zeroV75 (w : World) : (zeroValue 75).run Tryd.prog w = .ok (.agg #[.int .i64 0, .string ⟨#[]⟩, .int .i64 0, .int .i64 0, .int .i64 0, .int .i64 0, .int .i64 0, .int .u64 0, .string ⟨#[]⟩]) w := by kernel_rfl
theorem R_block {α : Type} {d : Kd α} {e : TypeId} {W : World} {base g m c : Nat} {ok : Nat → Prop} {xs : List α} (h : d.R e W base ok (.slice (some ⟨g, 0, none⟩) m c) xs) : ∃ cur, W.heap[g]? = some (.cells cur e (0, 0)) ∧ cur.size = c * d.sz := by
  obtain ⟨h0, inner, hown, hr⟩ := h
  rcases hown.2 with ⟨hq, _⟩ | ⟨g', cap, cur, hv, hb, hh, h1, h2, h3, h4⟩
  · cases hq
  · injection hv with ha hb' hc'
    injection ha with ha
    injection ha with ha
    subst ha
    subst hc'
    exact ⟨cur, hh, h3⟩
theorem blk_some {W : World} {g j : Nat} {cs : Array Value} {t : TypeId} (h : W.heap[g]? = some (.cells cs t (0, 0))) (hj : j < cs.size) : (W.cell? ⟨g, j, none⟩).isSome = true := by
  rw [blk_cell h (Array.getElem?_eq_getElem hj)]
  rfl
theorem step_del {P : Program} {ops : Array Oper} {o : Oper} {a : Act} {W : World} {K : Act → World → Prop} {Q : Exit → Act → World → Prop} {E : Prop} {α : Type} (d : Kd α) (base : Nat) (hgd : o.guard = none) (s x : Operand) (t e : TypeId) (ho : o.op = .call { callee := .builtin .append, args := #[s, x], argTypes := #[t, t] })
    (ht : P.underlying t = some (.slice e)) (hinfo : (P.info? e).map (·.size) = some d.sz) {g n c k m c2 : Nat} {A : Option Addr} {xs : List α} {ok : Nat → Prop}
    (hs : a.eval s = .slice (some ⟨g, 0, none⟩) k c) (hx : a.eval x = .slice A m c2) (hA : A = if c = k + 1 then some ⟨g, 0, none⟩ else (some (⟨g, 0, none⟩ : Addr)).map (·.add ((k + 1) * d.sz))) (hm : m = n - (k + 1))
    (HO : d.R e W base ok (.slice (some ⟨g, 0, none⟩) n c) xs) (hk : k < n)
    (h : ∀ w1, d.R e w1 base ok (.slice (some ⟨g, 0, none⟩) (n - 1) c) (xs.eraseIdx k) → W.grownBy w1 (some g) → K (a.put o.dst (.slice (some ⟨g, 0, none⟩) (n - 1) c)) w1) :
    if Region.wanted o (yielded ops a.tmps) = true then Oper.wp P o a W K Q else E := by
  obtain ⟨i0, hi, hsz⟩ := Option.map_eq_some_iff.1 hinfo
  subst hm
  obtain ⟨w1, hr, h1, h2⟩ := Kd.R_delete_run (P := P) d base t o.type e i0 ht hi hsz HO hk hA c2
  rw [if_pos (by unfold Region.wanted; rw [hgd])]
  unfold Oper.wp execOp
  simp only [ho, resolve, invoke, builtin, Sem.run_bind, Sem.run_pure, Result.andThen_ok, List.map_toArray, List.map_cons, List.map_nil, hs, hx, hr]
  exact h w1 h1 h2
set_option maxRecDepth 100000 in
set_option maxHeartbeats 4000000 in
theorem del150 (xs : List S98) (g c k : Nat) (W : World) (B : Nat) (ok : Nat → Prop) (hR : k98.R 98 W B ok (.slice (some ⟨g, 0, none⟩) xs.length c) xs) (hk : k < xs.length) (hx : xs.length ≤ 1000) :
    Calls Tryd.prog 150 #[.slice (some ⟨g, 0, none⟩) xs.length c, .int .i64 (k : Int), .int .i64 ((k : Int) + 1)] W fun e W' => e = .returned (.slice (some ⟨g, 0, none⟩) (xs.length - 1) c) ∧ k98.R 98 W' B ok (.slice (some ⟨g, 0, none⟩) (xs.length - 1) c) (xs.eraseIdx k) ∧ W.grownBy W' (some g) := by
  have hlc := (Kd.R_reads' hR).2.1
  have HR := Aside0.mk hR
  have HRd := Aside0.mk (Kd.R_below hR (below_drew (Below.refl _ W)))
  obtain ⟨i0, hi0, _, hsz, _⟩ := info_parts info98
  have hcut1 : ∀ X : World, (Instr.slice 68 (.slice (some ⟨g, 0, none⟩) xs.length c) none (some (.int .i64 (k : Int))) none).run Tryd.prog X = .ok (.slice (some ⟨g, 0, none⟩) k c) X := cut_to (P := Tryd.prog) 68 98 .i64 Tryd.underlying68 hi0 (some ⟨g, 0, none⟩) xs.length c (k : Int) (by omega) (by omega) (by omega)
  obtain ⟨AA, hAA⟩ : ∃ AA : Option Addr, (if c = k + 1 then (some ⟨g, 0, none⟩ : Option Addr) else (some ⟨g, 0, none⟩ : Option Addr).map (·.add ((k + 1) * 5))) = AA := ⟨_, rfl⟩
  have hcut2 : ∀ X : World, (Instr.slice 68 (.slice (some ⟨g, 0, none⟩) xs.length c) (some (.int .i64 ((k : Int) + 1))) none none).run Tryd.prog X = .ok (.slice AA (xs.length - (k + 1)) (c - (k + 1))) X := by
    intro X
    have h := cut_from (P := Tryd.prog) 68 98 .i64 Tryd.underlying68 hi0 5 hsz (some ⟨g, 0, none⟩) xs.length c ((k : Int) + 1) (by omega) (by omega) X
    rw [show ((k : Int) + 1).toNat = k + 1 by omega, hAA] at h
    exact h
  have hq : ((k : Int) == (k : Int) + 1) = false := by rw [beq_eq_false_iff_ne]; omega
  have HA := Lib.hid hAA
  have hk0 : (0 : Int) ≤ (k : Int) := by omega
  have hkl : (k : Int) < (xs.length : Int) := by omega
  clear hR hi0 hsz hAA
  go_enter Tryd.func150, Tryd.ntmps150
  go_wp2_with fail
  go_region_law
    ((refine step_del k98 B (by rfl) (.tmp 22) (.tmp 25) 68 98 (by rfl) Tryd.underlying68 (by kernel_rfl) (g := g) (n := xs.length) (c := c) (k := k) (m := xs.length - (k + 1)) (c2 := c - (k + 1)) (A := AA) (by rfl) (by rfl) HA.out.symm rfl (by repeat (first | exact HR.out | refine Kd.R_drew ?_)) hk ?_; intro w1 hr hg1; have HR1 := Aside0.mk hr; have HG1 := Aside0.mk hg1; clear hr hg1))
  all_goals
    obtain ⟨cur, hcur, hcs⟩ := R_block HR1.out
    have hq1 : ∀ j, j < (Value.agg #[.int .i64 0, .string ⟨#[]⟩, .slice none 0 0, .bool false, .int .i64 0]).cells.size → (w1.cell? ⟨g, (xs.length - 1) * 5 + j, none⟩).isSome = true := fun j hj => blk_some hcur (by have hj' : j < 5 := hj; rw [hcs]; show (xs.length - 1) * 5 + j < c * 5; omega)
    have hq2 : ∀ j, j < (Value.agg #[.int .i64 0, .string ⟨#[]⟩, .slice none 0 0, .bool false, .int .i64 0]).cells.size → w1.frozen? ⟨g, (xs.length - 1) * 5 + j, none⟩ = false := fun j _ => blk_frozen hcur _
    have hz := fun ty => clear_one (P := Tryd.prog) w1 68 98 ty _ Tryd.underlying68 zeroV98 g ((xs.length - 1) * 5) (c - (xs.length - 1)) hq1 hq2 (by simp [Value.cells, Value.oneCell']) (xs.length - (xs.length - 1)) (by omega)
    have HZ := Aside0.mk (R_tails (Value.agg #[.int .i64 0, .string ⟨#[]⟩, .slice none 0 0, .bool false, .int .i64 0]).cells.toList ((xs.length - 1) * 5) w1 HR1.out (Nat.le_refl _))
    have HK := Aside0.mk (keep_sets (g := g) (Value.agg #[.int .i64 0, .string ⟨#[]⟩, .slice none 0 0, .bool false, .int .i64 0]).cells.toList ((xs.length - 1) * 5) w1)
    clear hcur hcs hq1 hq2 hcut1 hcut2
    go_wp2
    go_ret
    refine ⟨rfl, HZ.out, ?_⟩
    obtain ⟨k1, k2, k3⟩ := HK.out
    exact ⟨k2.os.trans HG1.out.os, k2.tape.trans HG1.out.tape, k2.output.trans HG1.out.output, Nat.le_trans HG1.out.size (Nat.le_of_eq k3), fun j hj hne => (k1 j (Nat.lt_of_lt_of_le hj HG1.out.size) (fun e => hne (by rw [e]))).trans (HG1.out.block j hj hne)⟩
set_option maxRecDepth 100000 in
set_option maxHeartbeats 4000000 in
theorem del151 (xs : List S75) (g c k : Nat) (W : World) (B : Nat) (ok : Nat → Prop) (hR : k75.R 75 W B ok (.slice (some ⟨g, 0, none⟩) xs.length c) xs) (hk : k < xs.length) (hx : xs.length ≤ 1000) :
    Calls Tryd.prog 151 #[.slice (some ⟨g, 0, none⟩) xs.length c, .int .i64 (k : Int), .int .i64 ((k : Int) + 1)] W fun e W' => e = .returned (.slice (some ⟨g, 0, none⟩) (xs.length - 1) c) ∧ k75.R 75 W' B ok (.slice (some ⟨g, 0, none⟩) (xs.length - 1) c) (xs.eraseIdx k) ∧ W.grownBy W' (some g) := by
  have hlc := (Kd.R_reads' hR).2.1
  have HR := Aside0.mk hR
  have HRd := Aside0.mk (Kd.R_below hR (below_drew (Below.refl _ W)))
  obtain ⟨i0, hi0, _, hsz, _⟩ := info_parts info75
  have hcut1 : ∀ X : World, (Instr.slice 67 (.slice (some ⟨g, 0, none⟩) xs.length c) none (some (.int .i64 (k : Int))) none).run Tryd.prog X = .ok (.slice (some ⟨g, 0, none⟩) k c) X := cut_to (P := Tryd.prog) 67 75 .i64 Tryd.underlying67 hi0 (some ⟨g, 0, none⟩) xs.length c (k : Int) (by omega) (by omega) (by omega)
  obtain ⟨AA, hAA⟩ : ∃ AA : Option Addr, (if c = k + 1 then (some ⟨g, 0, none⟩ : Option Addr) else (some ⟨g, 0, none⟩ : Option Addr).map (·.add ((k + 1) * 9))) = AA := ⟨_, rfl⟩
  have hcut2 : ∀ X : World, (Instr.slice 67 (.slice (some ⟨g, 0, none⟩) xs.length c) (some (.int .i64 ((k : Int) + 1))) none none).run Tryd.prog X = .ok (.slice AA (xs.length - (k + 1)) (c - (k + 1))) X := by
    intro X
    have h := cut_from (P := Tryd.prog) 67 75 .i64 Tryd.underlying67 hi0 9 hsz (some ⟨g, 0, none⟩) xs.length c ((k : Int) + 1) (by omega) (by omega) X
    rw [show ((k : Int) + 1).toNat = k + 1 by omega, hAA] at h
    exact h
  have hq : ((k : Int) == (k : Int) + 1) = false := by rw [beq_eq_false_iff_ne]; omega
  have HA := Lib.hid hAA
  have hk0 : (0 : Int) ≤ (k : Int) := by omega
  have hkl : (k : Int) < (xs.length : Int) := by omega
  clear hR hi0 hsz hAA
  go_enter Tryd.func151, Tryd.ntmps151
  go_wp2_with fail
  go_region_law
    ((refine step_del k75 B (by rfl) (.tmp 22) (.tmp 25) 67 75 (by rfl) Tryd.underlying67 (by kernel_rfl) (g := g) (n := xs.length) (c := c) (k := k) (m := xs.length - (k + 1)) (c2 := c - (k + 1)) (A := AA) (by rfl) (by rfl) HA.out.symm rfl (by repeat (first | exact HR.out | refine Kd.R_drew ?_)) hk ?_; intro w1 hr hg1; have HR1 := Aside0.mk hr; have HG1 := Aside0.mk hg1; clear hr hg1))
  all_goals
    obtain ⟨cur, hcur, hcs⟩ := R_block HR1.out
    have hq1 : ∀ j, j < (Value.agg #[.int .i64 0, .string ⟨#[]⟩, .int .i64 0, .int .i64 0, .int .i64 0, .int .i64 0, .int .i64 0, .int .u64 0, .string ⟨#[]⟩]).cells.size → (w1.cell? ⟨g, (xs.length - 1) * 9 + j, none⟩).isSome = true := fun j hj => blk_some hcur (by have hj' : j < 9 := hj; rw [hcs]; show (xs.length - 1) * 9 + j < c * 9; omega)
    have hq2 : ∀ j, j < (Value.agg #[.int .i64 0, .string ⟨#[]⟩, .int .i64 0, .int .i64 0, .int .i64 0, .int .i64 0, .int .i64 0, .int .u64 0, .string ⟨#[]⟩]).cells.size → w1.frozen? ⟨g, (xs.length - 1) * 9 + j, none⟩ = false := fun j _ => blk_frozen hcur _
    have hz := fun ty => clear_one (P := Tryd.prog) w1 67 75 ty _ Tryd.underlying67 zeroV75 g ((xs.length - 1) * 9) (c - (xs.length - 1)) hq1 hq2 (by simp [Value.cells, Value.oneCell']) (xs.length - (xs.length - 1)) (by omega)
    have HZ := Aside0.mk (R_tails (Value.agg #[.int .i64 0, .string ⟨#[]⟩, .int .i64 0, .int .i64 0, .int .i64 0, .int .i64 0, .int .i64 0, .int .u64 0, .string ⟨#[]⟩]).cells.toList ((xs.length - 1) * 9) w1 HR1.out (Nat.le_refl _))
    have HK := Aside0.mk (keep_sets (g := g) (Value.agg #[.int .i64 0, .string ⟨#[]⟩, .int .i64 0, .int .i64 0, .int .i64 0, .int .i64 0, .int .i64 0, .int .u64 0, .string ⟨#[]⟩]).cells.toList ((xs.length - 1) * 9) w1)
    clear hcur hcs hq1 hq2 hcut1 hcut2
    go_wp2
    go_ret
    refine ⟨rfl, HZ.out, ?_⟩
    obtain ⟨k1, k2, k3⟩ := HK.out
    exact ⟨k2.os.trans HG1.out.os, k2.tape.trans HG1.out.tape, k2.output.trans HG1.out.output, Nat.le_trans HG1.out.size (Nat.le_of_eq k3), fun j hj hne => (k1 j (Nat.lt_of_lt_of_le hj HG1.out.size) (fun e => hne (by rw [e]))).trans (HG1.out.block j hj hne)⟩
end Go.Proofs.YtjgomlcdmpcoaaaDoor.H
namespace Go.Proofs.YtjgomlcdmpcoaaaDoor.H
open Go.RowKit Go.Proofs.YtjgomlcdmpcoaaaDoorW.PrintWords Go.Proofs.YtjgomlcdmpcoaaaDoorW.PrintLast Go.Proofs.YtjgomlcdmpcoaaaDoorW.PrintMore
open Go.Proofs.YtjgomlcdmpcoaaaDoor.D Go.Proofs.YtjgomlcdmpcoaaaDoor
set_option linter.unusedVariables false
set_option linter.unusedSimpArgs false
def byI (up : Bool) : Int := if up = true then 1 else -1
def turnXE (st : Int) (up : Bool) : Int := if (up = true ∧ st = 4) ∨ (up = false ∧ st = 0) then 12 else 0
def turnCE (t : S70) (k : Nat) (up : Bool) : Int :=
  if (up = true ∧ (rd_T75 t.f2 k).f3 = 4) ∨ (up = false ∧ (rd_T75 t.f2 k).f3 = 0) then 12
  else if k = 0 then 8
  else if up = false ∧ (rd_T75 t.f2 k).f3 = 1 ∧ usedB (rd_T75 t.f2 k).f0 t.f3 = true then 18 else 0
def turnNE (t : S70) (k : Nat) (up : Bool) : Int :=
  if (up = true ∧ (rd_T75 t.f2 k).f4 = 4) ∨ (up = false ∧ (rd_T75 t.f2 k).f4 = 0) then 12
  else if k = 0 then 8 else 0
def TurnPost (w0 W : World) (g n cap : Nat) (ts : List S70) (i : Nat) (c : Int) (t : S70) (e : Ending) (W' : World) : Prop :=
  e = .returned (.int .i64 c) ∧ Tch w0.heap.size W W' ∧ (c = 0 → Kd.S k70 70 W' w0.heap.size (fun _ => True) (.slice (some ⟨g, 0, none⟩) n cap) (ts.set i t))
theorem R_cap {α : Type} {d : Kd α} {e : TypeId} {W : World} {base g m c : Nat} {ok : Nat → Prop} {xs : List α} (h : d.R e W base ok (.slice (some ⟨g, 0, none⟩) m c) xs) : c ≤ maxLen := by
  obtain ⟨h0, inner, hown, hr⟩ := h
  rcases hown.2 with ⟨hq, _⟩ | ⟨g', cap, cur, hv, hb, hh, h1, h2, h3, h4⟩
  · cases hq
  · injection hv with ha hb' hc'
    rw [hc']
    exact h2
set_option maxRecDepth 100000 in
set_option maxHeartbeats 8000000 in
theorem turnX_up (w0 W : World) (g n cap : Nat) (ts : List S70) (i : Nat) (oki : Nat → Prop) (t : S70) (cv iv : Value) (gi m c E k : Nat) (hB : Below w0.heap.size w0 W) (hL : Lent W w0.heap.size g n cap ts i oki t cv iv) (ht : tableB t = true) (hv : iv = .slice (some ⟨gi, 0, none⟩) m c) (hk : k < t.f3.length)
    (hE : ElemOk E ⟨g, i * 5, none⟩ ⟨gi, k * 5 + 4, none⟩ k true false W) :
    Calls Tryd.prog 108 #[.pointer (some ⟨E, 0, none⟩), .bool true] W (TurnPost w0 W g n cap ts i (turnXE (rd_T98 t.f3 (k : Int)).f4 true) (turnI t k ((rd_T98 t.f3 (k : Int)).f4 + byI true))) := by
  obtain ⟨m2, m3, m4, m5⟩ := tableB_lens ht
  have hE' : W.heap[E]? = some (.cells #[.pointer (some ⟨g, i * 5, none⟩), .pointer (some ⟨gi, k * 5 + 4, none⟩), .int .i64 k, .bool true, .bool false] 148 (0, 0)) := hE
  have hHE := Aside0.mk hE'
  subst hv
  obtain rfl : m = t.f3.length := (Kd.R_reads' hL.inds).1
  have h0 := blk_cell (j := 0) (v := .pointer (some ⟨g, i * 5, none⟩)) hE' rfl
  have h1 := blk_cell (j := 1) (v := .pointer (some ⟨gi, k * 5 + 4, none⟩)) hE' rfl
  have h2 := blk_cell (j := 2) (v := .int .i64 k) hE' rfl
  have h3 := blk_cell (j := 3) (v := .bool true) hE' rfl
  have h4 := blk_cell (j := 4) (v := .bool false) hE' rfl
  have hU := (⟨hL, Tch.refl _ _, hB.size⟩ : UpdSt w0 W W g n cap ts i oki t _ _)
  have hst : (rd_T98 t.f3 (k : Int)) = t.f3[k] := rd98 _ _ hk
  rw [hst]
  obtain ⟨cz, hcl, hM, hcc, hfr⟩ := Kd.R_elem hL.inds z98 (k : Int) (by omega) (by omega)
  rw [show t.f3.getD (k : Int).toNat z98 = t.f3[k] by simp [List.getD, hk]] at hM
  obtain ⟨v2, rfl, -⟩ := k98_openM hM
  have e4 : W.cell? ⟨gi, k * 5 + 4, none⟩ = some (.int .i64 t.f3[k].f4) := hcc 4 _ rfl
  have f4 : W.frozen? ⟨gi, k * 5 + 4, none⟩ = false := hfr 4
  obtain ⟨st, hs⟩ : ∃ st, t.f3[k].f4 = st := ⟨_, rfl⟩
  have hst4 : 0 ≤ st ∧ st ≤ 4 := by
    have hb := tindsB_all _ _ _ (by unfold tableB at ht; simp only [Bool.and_eq_true] at ht; exact ht.2.2.2.2.2.2.2.1) t.f3[k] (List.getElem_mem hk)
    unfold indexB stateB at hb
    simp only [Bool.and_eq_true, decide_eq_true_eq] at hb
    omega
  have HU := Aside0.mk hU
  have HB := Aside0.mk hB
  have hlc := (Kd.R_reads' hL.inds).2.1
  have hcm : c ≤ maxLen := R_cap hL.inds
  have hne : g ≠ gi := fun e => hL.oki_ne gi (hL.inds.1 gi (by simp [Value.ownBlock])) e.symm
  obtain ⟨gcs, hgb⟩ := hL.blk
  obtain ⟨ics, hib⟩ := Kd.R_typed hL.inds gi (by simp [Value.ownBlock])
  have hEg : E ≠ g := (blk_ne hE' hgb (by decide))
  have hEi : E ≠ gi := (blk_ne hE' hib (by decide))
  have a3 := hL.cell 3 rfl
  have fa := hL.frozen (i * 5 + 3)
  have hEl := lt_of_block hE'
  have hgl := lt_of_block hgb
  have hHG := Aside0.mk hgb
  rw [hs] at e4 ⊢
  have HS := Lib.hid hs
  have hne' : gi ≠ g := Ne.symm hne
  clear hE hE' hL ht hU hB hcl hM hcc hfr hst hs hgb hib
  by_cases hr : st = 4
  · subst hr
    rw [show turnXE 4 true = 12 from rfl]
    generalize turnI t k (4 + byI true) = T
    go_enter Tryd.func108, Tryd.ntmps108
    go_wp2
    all_goals
      go_ret
      exact ⟨rfl, Tch.refl _ _, fun h => absurd h (by decide)⟩
  have hq : (st == 4) = false := by simpa using hr
  have hc : turnXE st true = 0 := by unfold turnXE; rw [if_neg]; rintro (⟨-, h⟩ | ⟨h, -⟩); exact hr h; cases h
  have hTI : turnI t k (st + byI true) = ⟨t.f0, t.f1, t.f2, t.f3.set k ⟨t.f3[k].f0, t.f3[k].f1, t.f3[k].f2, t.f3[k].f3, st + 1⟩, t.f4⟩ := by unfold turnI byI; rw [if_pos rfl, if_neg (by omega), rd98 _ _ hk]
  have HF := Aside0.mk (HU.out.putI k hk (st + 1) hTI.symm)
  rw [hc]
  clear hc hTI hr
  go_enter Tryd.func108, Tryd.ntmps108
  go_wp2
  go_ret
  exact ⟨rfl, HF.out.tch, fun _ => HF.out.lent.back⟩
set_option maxRecDepth 100000 in
set_option maxHeartbeats 8000000 in
theorem turnX_dn (w0 W : World) (g n cap : Nat) (ts : List S70) (i : Nat) (oki : Nat → Prop) (t : S70) (cv iv : Value) (gi m c E k : Nat) (hB : Below w0.heap.size w0 W) (hL : Lent W w0.heap.size g n cap ts i oki t cv iv) (ht : tableB t = true) (hv : iv = .slice (some ⟨gi, 0, none⟩) m c) (hk : k < t.f3.length)
    (hE : ElemOk E ⟨g, i * 5, none⟩ ⟨gi, k * 5 + 4, none⟩ k true false W) :
    Calls Tryd.prog 108 #[.pointer (some ⟨E, 0, none⟩), .bool false] W (TurnPost w0 W g n cap ts i (turnXE (rd_T98 t.f3 (k : Int)).f4 false) (turnI t k ((rd_T98 t.f3 (k : Int)).f4 + byI false))) := by
  obtain ⟨m2, m3, m4, m5⟩ := tableB_lens ht
  have hE' : W.heap[E]? = some (.cells #[.pointer (some ⟨g, i * 5, none⟩), .pointer (some ⟨gi, k * 5 + 4, none⟩), .int .i64 k, .bool true, .bool false] 148 (0, 0)) := hE
  have hHE := Aside0.mk hE'
  subst hv
  obtain rfl : m = t.f3.length := (Kd.R_reads' hL.inds).1
  have h0 := blk_cell (j := 0) (v := .pointer (some ⟨g, i * 5, none⟩)) hE' rfl
  have h1 := blk_cell (j := 1) (v := .pointer (some ⟨gi, k * 5 + 4, none⟩)) hE' rfl
  have h2 := blk_cell (j := 2) (v := .int .i64 k) hE' rfl
  have h3 := blk_cell (j := 3) (v := .bool true) hE' rfl
  have h4 := blk_cell (j := 4) (v := .bool false) hE' rfl
  have hU := (⟨hL, Tch.refl _ _, hB.size⟩ : UpdSt w0 W W g n cap ts i oki t _ _)
  have hst : (rd_T98 t.f3 (k : Int)) = t.f3[k] := rd98 _ _ hk
  rw [hst]
  obtain ⟨cz, hcl, hM, hcc, hfr⟩ := Kd.R_elem hL.inds z98 (k : Int) (by omega) (by omega)
  rw [show t.f3.getD (k : Int).toNat z98 = t.f3[k] by simp [List.getD, hk]] at hM
  obtain ⟨v2, rfl, -⟩ := k98_openM hM
  have e4 : W.cell? ⟨gi, k * 5 + 4, none⟩ = some (.int .i64 t.f3[k].f4) := hcc 4 _ rfl
  have f4 : W.frozen? ⟨gi, k * 5 + 4, none⟩ = false := hfr 4
  obtain ⟨st, hs⟩ : ∃ st, t.f3[k].f4 = st := ⟨_, rfl⟩
  have hst4 : 0 ≤ st ∧ st ≤ 4 := by
    have hb := tindsB_all _ _ _ (by unfold tableB at ht; simp only [Bool.and_eq_true] at ht; exact ht.2.2.2.2.2.2.2.1) t.f3[k] (List.getElem_mem hk)
    unfold indexB stateB at hb
    simp only [Bool.and_eq_true, decide_eq_true_eq] at hb
    omega
  have HU := Aside0.mk hU
  have HB := Aside0.mk hB
  have hlc := (Kd.R_reads' hL.inds).2.1
  have hcm : c ≤ maxLen := R_cap hL.inds
  have hne : g ≠ gi := fun e => hL.oki_ne gi (hL.inds.1 gi (by simp [Value.ownBlock])) e.symm
  obtain ⟨gcs, hgb⟩ := hL.blk
  obtain ⟨ics, hib⟩ := Kd.R_typed hL.inds gi (by simp [Value.ownBlock])
  have hEg : E ≠ g := (blk_ne hE' hgb (by decide))
  have hEi : E ≠ gi := (blk_ne hE' hib (by decide))
  have a3 := hL.cell 3 rfl
  have fa := hL.frozen (i * 5 + 3)
  have hEl := lt_of_block hE'
  have hgl := lt_of_block hgb
  have hHG := Aside0.mk hgb
  rw [hs] at e4 ⊢
  have HS := Lib.hid hs
  have hne' : gi ≠ g := Ne.symm hne
  clear hE hE' hL ht hU hB hcl hM hcc hfr hst hs hgb hib
  by_cases hr : st = 0
  · subst hr
    rw [show turnXE 0 false = 12 from rfl]
    generalize turnI t k (0 + byI false) = T
    go_enter Tryd.func108, Tryd.ntmps108
    go_wp2
    all_goals
      go_ret
      exact ⟨rfl, Tch.refl _ _, fun h => absurd h (by decide)⟩
  have hq : (st == 0) = false := by simpa using hr
  have hc : turnXE st false = 0 := by unfold turnXE; rw [if_neg]; rintro (⟨h, -⟩ | ⟨-, h⟩); cases h; exact hr h
  rw [hc]
  clear hc
  by_cases h1s : st = 1
  · subst h1s
    have hTI := Lib.hid (show turnI t k (1 + byI false) = ⟨t.f0, t.f1, t.f2, t.f3.eraseIdx k, t.f4⟩ by unfold turnI byI; rw [if_pos (by decide)])
    have hwk : IntKind.i64.wrap ((k : Int) + 1) = (k : Int) + 1 := IntWalk.i64_in _ (by omega)
    have HDL := Lib.hid (del150 t.f3 gi c k W.drew w0.heap.size oki (Kd.R_drew HU.out.lent.inds) hk (by omega))
    have HARM := Lib.hid (fun (w3 : World) (hg3 : W.drew.grownBy w3 (some gi)) => (show w3.cell? ⟨E, 0, none⟩ = some (.pointer (some ⟨g, i * 5, none⟩)) ∧ w3.cell? ⟨E, 2, none⟩ = some (.int .i64 k) ∧ w3.frozen? ⟨g, i * 5 + 3, none⟩ = false ∧ g < w3.heap.size ∧ w3.cell? ⟨g, i * 5 + 3, none⟩ = some (.slice (some ⟨gi, 0, none⟩) t.f3.length c) by
      have hE3 := blk_grown (blk_below hHE.out (below_drew (Below.refl _ _))) hg3 (fun h => hEi (by injection h))
      have hG3 := blk_grown (blk_below hHG.out (below_drew (Below.refl _ _))) hg3 (fun h => hne (by injection h))
      exact ⟨blk_cell hE3 rfl, blk_cell hE3 rfl, blk_frozen hG3 _, lt_of_block hG3, hg3.cell (pw_cell_below (below_drew (Below.refl _ W)) a3) (fun h => hne (by injection h))⟩))
    have hwk : IntKind.i64.wrap ((k : Int) + 1) = (k : Int) + 1 := IntWalk.i64_in _ (by omega)
    clear hr hq
    go_enter Tryd.func108, Tryd.ntmps108
    go_wp2_with fail
    clear h1 h3 h4 e4 f4 hst4 hlc hcm m2 m3 m4 m5
    go_region_law ((go_simp; go_at_call 150; refine HDL.out.mono ?_; rintro e w3 ⟨rfl, hr3, hg3⟩; obtain ⟨z0, z2, zf, zl, y3⟩ := HARM.out w3 hg3))
    all_goals
      have HF := Aside0.mk ((HU.out.step (below_drew (Below.refl _ _))).setI hg3 hr3 hTI.out.symm)
      clear hr3 hg3 z0 z2 zf y3 a3 fa HDL HARM
      go_wp2
      go_ret
      exact ⟨rfl, HF.out.tch, fun _ => HF.out.lent.back⟩
  have hq1 : (st == 1) = false := by simpa using h1s
  have hTI : turnI t k (st + byI false) = ⟨t.f0, t.f1, t.f2, t.f3.set k ⟨t.f3[k].f0, t.f3[k].f1, t.f3[k].f2, t.f3[k].f3, st - 1⟩, t.f4⟩ := by unfold turnI byI; rw [if_neg (show ¬ (false = true) by simp), if_neg (by omega), rd98 _ _ hk, Int.sub_eq_add_neg]
  have HF := Aside0.mk (HU.out.putI k hk (st - 1) hTI.symm)
  clear hTI hr h1s
  go_enter Tryd.func108, Tryd.ntmps108
  go_wp2
  go_ret
  exact ⟨rfl, HF.out.tch, fun _ => HF.out.lent.back⟩
end Go.Proofs.YtjgomlcdmpcoaaaDoor.H
namespace Go.Proofs.YtjgomlcdmpcoaaaDoor.H
open Go.RowKit Go.Proofs.YtjgomlcdmpcoaaaDoorW.PrintWords Go.Proofs.YtjgomlcdmpcoaaaDoorW.PrintLast Go.Proofs.YtjgomlcdmpcoaaaDoorW.PrintMore
open Go.Proofs.YtjgomlcdmpcoaaaDoor.D Go.Proofs.YtjgomlcdmpcoaaaDoor
set_option linter.unusedVariables false
set_option linter.unusedSimpArgs false
set_option maxRecDepth 100000 in
set_option maxHeartbeats 8000000 in
theorem turnN_up (w0 W : World) (g n cap : Nat) (ts : List S70) (i : Nat) (oki : Nat → Prop) (t : S70) (cv iv : Value) (gi m c E k : Nat) (hB : Below w0.heap.size w0 W) (hL : Lent W w0.heap.size g n cap ts i oki t cv iv) (ht : tableB t = true) (hv : cv = .slice (some ⟨gi, 0, none⟩) m c) (hk : k < t.f2.length)
    (hE : ElemOk E ⟨g, i * 5, none⟩ ⟨gi, k * 9 + 4, none⟩ k false true W) :
    Calls Tryd.prog 108 #[.pointer (some ⟨E, 0, none⟩), .bool true] W (TurnPost w0 W g n cap ts i (turnNE t k true) (turnN t k ((rd_T75 t.f2 (k : Int)).f4 + byI true))) := by
  obtain ⟨m2, m3, m4, m5⟩ := tableB_lens ht
  have hE' : W.heap[E]? = some (.cells #[.pointer (some ⟨g, i * 5, none⟩), .pointer (some ⟨gi, k * 9 + 4, none⟩), .int .i64 k, .bool false, .bool true] 148 (0, 0)) := hE
  have hHE := Aside0.mk hE'
  subst hv
  obtain rfl : m = t.f2.length := (Kd.R_reads' hL.cols).1
  have h0 := blk_cell (j := 0) (v := .pointer (some ⟨g, i * 5, none⟩)) hE' rfl
  have h1 := blk_cell (j := 1) (v := .pointer (some ⟨gi, k * 9 + 4, none⟩)) hE' rfl
  have h2 := blk_cell (j := 2) (v := .int .i64 k) hE' rfl
  have h3 := blk_cell (j := 3) (v := .bool false) hE' rfl
  have h4 := blk_cell (j := 4) (v := .bool true) hE' rfl
  have hU := (⟨hL, Tch.refl _ _, hB.size⟩ : UpdSt w0 W W g n cap ts i oki t _ _)
  have hst : (rd_T75 t.f2 (k : Int)) = t.f2[k] := rd75 _ _ hk
  obtain ⟨cz, hcl, hM, hcc, hfr⟩ := Kd.R_elem hL.cols z75 (k : Int) (by omega) (by omega)
  rw [show t.f2.getD (k : Int).toNat z75 = t.f2[k] by simp [List.getD, hk]] at hM
  obtain rfl := k75_openM hM
  have e4 : W.cell? ⟨gi, k * 9 + 4, none⟩ = some (.int .i64 t.f2[k].f4) := hcc 4 _ rfl
  have f4 : W.frozen? ⟨gi, k * 9 + 4, none⟩ = false := hfr 4
  have e0 : W.cell? ⟨gi, k * 9, none⟩ = some (.int .i64 t.f2[k].f0) := hcc 0 _ rfl
  obtain ⟨st, hs⟩ : ∃ st, t.f2[k].f4 = st := ⟨_, rfl⟩
  obtain ⟨id, hid⟩ : ∃ id, t.f2[k].f0 = id := ⟨_, rfl⟩
  have hst4 : 0 ≤ st ∧ st ≤ 4 := by
    have hb := tcolsB_all _ _ _ (by unfold tableB at ht; simp only [Bool.and_eq_true] at ht; exact ht.2.2.2.2.2.2.1) t.f2[k] (List.getElem_mem hk)
    unfold columnB stateB at hb
    simp only [Bool.and_eq_true, decide_eq_true_eq] at hb
    omega
  have HU := Aside0.mk hU
  have HB := Aside0.mk hB
  have hlc := (Kd.R_reads' hL.cols).2.1
  have hne : g ≠ gi := fun e => hL.oki_ne gi (hL.cols.1 gi (by simp [Value.ownBlock])) e.symm
  obtain ⟨gcs, hgb⟩ := hL.blk
  obtain ⟨ics, hib⟩ := Kd.R_typed hL.cols gi (by simp [Value.ownBlock])
  have hEg : E ≠ g := (blk_ne hE' hgb (by decide))
  have hEi : E ≠ gi := (blk_ne hE' hib (by decide))
  have a2 := hL.cell 2 rfl
  have fa := hL.frozen (i * 5 + 2)
  have hEl := lt_of_block hE'
  have hgl := lt_of_block hgb
  have hHG := Aside0.mk hgb
  have hkl : (k : Int) < (t.f2.length : Int) := by omega
  have hk0 : (0 : Int) ≤ (k : Int) := by omega
  have HI := Lib.hid (show turnNE t k true = _ by unfold turnNE; rw [hst, hs])
  rw [hst, hs]
  rw [hs] at e4
  rw [hid] at e0
  have HS := Lib.hid hs
  have HID := Lib.hid hid
  have hne' : gi ≠ g := Ne.symm hne
  obtain ⟨C, hC⟩ : ∃ C, turnNE t k true = C := ⟨_, rfl⟩
  rw [hC] at HI ⊢
  clear hE hE' hL ht hU hB hcl hM hcc hfr hst hs hgb hib hid hC
  by_cases hr : st = 4
  · obtain rfl : C = 12 := by rw [HI.out, if_pos (.inl ⟨rfl, hr⟩)]
    subst hr
    go_enter Tryd.func108, Tryd.ntmps108
    go_wp2_with fail
    go_region
    all_goals
      go_wp2
      go_ret
      exact ⟨rfl, (HU.out.step (below_drew (Below.refl _ _))).tch, fun h => absurd h (by decide)⟩
  have hq : (st == 4) = false := by simpa using hr
  have HI2 := Lib.hid (HI.out.trans (if_neg (by rintro (⟨-, h⟩ | ⟨h, -⟩); exact hr h; cases h)))
  clear HI
  by_cases hkz : k = 0
  · obtain rfl : C = 8 := by rw [HI2.out, if_pos hkz]
    subst hkz
    clear HI2
    go_enter Tryd.func108, Tryd.ntmps108
    go_wp2_with fail
    go_region
    all_goals
      go_wp2
      all_goals
        go_ret
        exact ⟨rfl, (HU.out.step (below_drew (Below.refl _ _))).tch, fun h => absurd h (by decide)⟩
  have hkq : ((k : Int) == 0) = false := by rw [beq_eq_false_iff_ne]; omega
  have HI3 := Lib.hid (HI2.out.trans (if_neg hkz))
  clear HI2 hkz
  obtain rfl : C = 0 := HI3.out
  clear HI3 hr
  have hTI : turnN t k (st + byI true) = ⟨t.f0, t.f1, t.f2.set k ⟨t.f2[k].f0, t.f2[k].f1, t.f2[k].f2, t.f2[k].f3, st + 1, t.f2[k].f5⟩, t.f3, t.f4⟩ := by unfold turnN byI; rw [if_pos rfl, rd75 _ _ hk]
  have HTI := Lib.hid hTI
  clear hTI
  go_enter Tryd.func108, Tryd.ntmps108
  go_wp2_with fail
  go_region
  all_goals
    have HUd := Aside0.mk (HU.out.step (below_drew (Below.refl _ _)))
    have HF := Aside0.mk (HUd.out.putN k hk (st + 1) HTI.out.symm)
    go_wp2
    go_ret
    exact ⟨rfl, HF.out.tch, fun _ => HF.out.lent.back⟩
set_option maxRecDepth 100000 in
set_option maxHeartbeats 8000000 in
theorem turnN_dn (w0 W : World) (g n cap : Nat) (ts : List S70) (i : Nat) (oki : Nat → Prop) (t : S70) (cv iv : Value) (gi m c E k : Nat) (hB : Below w0.heap.size w0 W) (hL : Lent W w0.heap.size g n cap ts i oki t cv iv) (ht : tableB t = true) (hv : cv = .slice (some ⟨gi, 0, none⟩) m c) (hk : k < t.f2.length)
    (hE : ElemOk E ⟨g, i * 5, none⟩ ⟨gi, k * 9 + 4, none⟩ k false true W) :
    Calls Tryd.prog 108 #[.pointer (some ⟨E, 0, none⟩), .bool false] W (TurnPost w0 W g n cap ts i (turnNE t k false) (turnN t k ((rd_T75 t.f2 (k : Int)).f4 + byI false))) := by
  obtain ⟨m2, m3, m4, m5⟩ := tableB_lens ht
  have hE' : W.heap[E]? = some (.cells #[.pointer (some ⟨g, i * 5, none⟩), .pointer (some ⟨gi, k * 9 + 4, none⟩), .int .i64 k, .bool false, .bool true] 148 (0, 0)) := hE
  have hHE := Aside0.mk hE'
  subst hv
  obtain rfl : m = t.f2.length := (Kd.R_reads' hL.cols).1
  have h0 := blk_cell (j := 0) (v := .pointer (some ⟨g, i * 5, none⟩)) hE' rfl
  have h1 := blk_cell (j := 1) (v := .pointer (some ⟨gi, k * 9 + 4, none⟩)) hE' rfl
  have h2 := blk_cell (j := 2) (v := .int .i64 k) hE' rfl
  have h3 := blk_cell (j := 3) (v := .bool false) hE' rfl
  have h4 := blk_cell (j := 4) (v := .bool true) hE' rfl
  have hU := (⟨hL, Tch.refl _ _, hB.size⟩ : UpdSt w0 W W g n cap ts i oki t _ _)
  have hst : (rd_T75 t.f2 (k : Int)) = t.f2[k] := rd75 _ _ hk
  obtain ⟨cz, hcl, hM, hcc, hfr⟩ := Kd.R_elem hL.cols z75 (k : Int) (by omega) (by omega)
  rw [show t.f2.getD (k : Int).toNat z75 = t.f2[k] by simp [List.getD, hk]] at hM
  obtain rfl := k75_openM hM
  have e4 : W.cell? ⟨gi, k * 9 + 4, none⟩ = some (.int .i64 t.f2[k].f4) := hcc 4 _ rfl
  have f4 : W.frozen? ⟨gi, k * 9 + 4, none⟩ = false := hfr 4
  have e0 : W.cell? ⟨gi, k * 9, none⟩ = some (.int .i64 t.f2[k].f0) := hcc 0 _ rfl
  obtain ⟨st, hs⟩ : ∃ st, t.f2[k].f4 = st := ⟨_, rfl⟩
  obtain ⟨id, hid⟩ : ∃ id, t.f2[k].f0 = id := ⟨_, rfl⟩
  have hst4 : 0 ≤ st ∧ st ≤ 4 := by
    have hb := tcolsB_all _ _ _ (by unfold tableB at ht; simp only [Bool.and_eq_true] at ht; exact ht.2.2.2.2.2.2.1) t.f2[k] (List.getElem_mem hk)
    unfold columnB stateB at hb
    simp only [Bool.and_eq_true, decide_eq_true_eq] at hb
    omega
  have HU := Aside0.mk hU
  have HB := Aside0.mk hB
  have hlc := (Kd.R_reads' hL.cols).2.1
  have hne : g ≠ gi := fun e => hL.oki_ne gi (hL.cols.1 gi (by simp [Value.ownBlock])) e.symm
  obtain ⟨gcs, hgb⟩ := hL.blk
  obtain ⟨ics, hib⟩ := Kd.R_typed hL.cols gi (by simp [Value.ownBlock])
  have hEg : E ≠ g := (blk_ne hE' hgb (by decide))
  have hEi : E ≠ gi := (blk_ne hE' hib (by decide))
  have a2 := hL.cell 2 rfl
  have fa := hL.frozen (i * 5 + 2)
  have hEl := lt_of_block hE'
  have hgl := lt_of_block hgb
  have hHG := Aside0.mk hgb
  have hkl : (k : Int) < (t.f2.length : Int) := by omega
  have hk0 : (0 : Int) ≤ (k : Int) := by omega
  have HI := Lib.hid (show turnNE t k false = _ by unfold turnNE; rw [hst, hs])
  rw [hst, hs]
  rw [hs] at e4
  rw [hid] at e0
  have HS := Lib.hid hs
  have HID := Lib.hid hid
  have hne' : gi ≠ g := Ne.symm hne
  obtain ⟨C, hC⟩ : ∃ C, turnNE t k false = C := ⟨_, rfl⟩
  rw [hC] at HI ⊢
  clear hE hE' hL ht hU hB hcl hM hcc hfr hst hs hgb hib hid hC
  by_cases hr : st = 0
  · obtain rfl : C = 12 := by rw [HI.out, if_pos (.inr ⟨rfl, hr⟩)]
    subst hr
    go_enter Tryd.func108, Tryd.ntmps108
    go_wp2_with fail
    go_region
    all_goals
      go_wp2
      go_ret
      exact ⟨rfl, (HU.out.step (below_drew (Below.refl _ _))).tch, fun h => absurd h (by decide)⟩
  have hq : (st == 0) = false := by simpa using hr
  have HI2 := Lib.hid (HI.out.trans (if_neg (by rintro (⟨h, -⟩ | ⟨-, h⟩); cases h; exact hr h)))
  clear HI
  by_cases hkz : k = 0
  · obtain rfl : C = 8 := by rw [HI2.out, if_pos hkz]
    subst hkz
    clear HI2
    go_enter Tryd.func108, Tryd.ntmps108
    go_wp2_with fail
    go_region
    all_goals
      go_wp2
      all_goals
        go_ret
        exact ⟨rfl, (HU.out.step (below_drew (Below.refl _ _))).tch, fun h => absurd h (by decide)⟩
  have hkq : ((k : Int) == 0) = false := by rw [beq_eq_false_iff_ne]; omega
  have HI3 := Lib.hid (HI2.out.trans (if_neg hkz))
  clear HI2 hkz
  obtain rfl : C = 0 := HI3.out
  clear HI3 hr
  by_cases h1s : st = 1
  · subst h1s
    have hTI : turnN t k (1 + byI false) = ⟨t.f0, t.f1, t.f2.set k ⟨t.f2[k].f0, t.f2[k].f1, t.f2[k].f2, t.f2[k].f3, (1 - 1 : Int), t.f2[k].f5⟩, t.f3, t.f4⟩ := by unfold turnN byI; rw [if_neg (show ¬ (false = true) by simp), rd75 _ _ hk, Int.sub_eq_add_neg]
    have HTI := Lib.hid hTI
    clear hTI
    go_enter Tryd.func108, Tryd.ntmps108
    go_wp2_with fail
    go_region
    all_goals
      have HUd := Aside0.mk (HU.out.step (below_drew (Below.refl _ _)))
      have HF := Aside0.mk (HUd.out.putN k hk ((1 - 1 : Int)) HTI.out.symm)
      go_wp2
      go_ret
      exact ⟨rfl, HF.out.tch, fun _ => HF.out.lent.back⟩
  have hq1 : (st == 1) = false := by simpa using h1s
  clear h1s
  have hTI : turnN t k (st + byI false) = ⟨t.f0, t.f1, t.f2.set k ⟨t.f2[k].f0, t.f2[k].f1, t.f2[k].f2, t.f2[k].f3, st - 1, t.f2[k].f5⟩, t.f3, t.f4⟩ := by unfold turnN byI; rw [if_neg (show ¬ (false = true) by simp), rd75 _ _ hk, Int.sub_eq_add_neg]
  have HTI := Lib.hid hTI
  clear hTI
  go_enter Tryd.func108, Tryd.ntmps108
  go_wp2_with fail
  go_region
  all_goals
    have HUd := Aside0.mk (HU.out.step (below_drew (Below.refl _ _)))
    have HF := Aside0.mk (HUd.out.putN k hk (st - 1) HTI.out.symm)
    go_wp2
    go_ret
    exact ⟨rfl, HF.out.tch, fun _ => HF.out.lent.back⟩
end Go.Proofs.YtjgomlcdmpcoaaaDoor.H
