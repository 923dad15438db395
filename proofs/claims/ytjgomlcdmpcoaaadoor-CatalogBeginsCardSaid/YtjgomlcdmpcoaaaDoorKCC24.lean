/- Own texts of this session, packed by its program wip/pp/pack.py: lemmas and walks of functions. -/
import Derived.Test.YtjgomlcdmpcoaaaDoorKCC18
import Derived.Test.YtjgomlcdmpcoaaaDoorKCC19
import Derived.Test.YtjgomlcdmpcoaaaDoorKCC21
import Derived.Test.YtjgomlcdmpcoaaaDoorKCC23
namespace Go.Proofs.YtjgomlcdmpcoaaaDoor.H
open Go.RowKit Go.Proofs.YtjgomlcdmpcoaaaDoorW.PrintWords Go.Proofs.YtjgomlcdmpcoaaaDoorW.PrintLast Go.Proofs.YtjgomlcdmpcoaaaDoorW.PrintMore
open Go.Proofs.YtjgomlcdmpcoaaaDoor.D Go.Proofs.YtjgomlcdmpcoaaaDoor
attribute [local go_sem] max2_int min2_int max_two min_two max_three min_three max_four min_four
set_option linter.unusedVariables false
set_option linter.unusedSimpArgs false
def newColsG : Nat → List ByteArray → List Int → List S75
  | i, n :: ns, k :: ks => ⟨(i : Int) + 1, n, k, 4, 0, z73⟩ :: newColsG (i + 1) ns ks
  | _, _, _ => []
def keyed (l : List S75) : List S75 := match l with
  | [] => []
  | c :: r => ⟨c.f0, c.f1, c.f2, c.f3, 4, c.f5⟩ :: r
theorem newCols_pos : ∀ (ns : List ByteArray) (ks : List Int) (i : Nat), 0 < i → newCols i ns ks = newColsG i ns ks
  | [], _, _, _ => by unfold newCols newColsG; rfl
  | _ :: _, [], _, _ => by unfold newCols newColsG; rfl
  | n :: ns, k :: ks, i, h => by
    unfold newCols newColsG
    rw [if_neg (by omega), newCols_pos ns ks (i + 1) (by omega)]
theorem newCols_keyed (ns : List ByteArray) (ks : List Int) : newCols 0 ns ks = keyed (newColsG 0 ns ks) := by
  cases ns with
  | nil => rfl
  | cons n ns =>
    cases ks with
    | nil => rfl
    | cons k ks =>
      unfold newCols newColsG keyed
      rw [if_pos rfl, newCols_pos ns ks 1 (by omega)]
theorem keyed_set {l : List S75} (h : 0 < l.length) : keyed l = l.set 0 ⟨l[0].f0, l[0].f1, l[0].f2, l[0].f3, 4, l[0].f5⟩ := by
  cases l with
  | nil => simp at h
  | cons c r => rfl
theorem badCols_any : ∀ (ns : List ByteArray) (ks : List Int), ns.length = ks.length → badCols ns ks = (ns.any (fun n => !(nameB n)) || ks.any (fun k => !(decide (1 ≤ k) && decide (k ≤ 5))))
  | [], [], _ => rfl
  | n :: ns, k :: ks, h => by
    unfold badCols
    rw [badCols_any ns ks (by simpa using h), List.any_cons, List.any_cons]
    have hk : (decide (k < 1) || decide (5 < k)) = !(decide (1 ≤ k) && decide (k ≤ 5)) := by
      by_cases h1 : 1 ≤ k
      · by_cases h2 : k ≤ 5
        · rw [decide_eq_true h1, decide_eq_true h2, decide_eq_false (show ¬ k < 1 by omega), decide_eq_false (show ¬ 5 < k by omega)]; rfl
        · rw [decide_eq_true h1, decide_eq_false h2, decide_eq_false (show ¬ k < 1 by omega), decide_eq_true (show 5 < k by omega)]; rfl
      · rw [decide_eq_false h1, decide_eq_true (show k < 1 by omega)]; simp
    rw [hk]
    cases nameB n <;> cases (decide (1 ≤ k) && decide (k ≤ 5)) <;> simp
def crE (ts : List S70) (nx : Int) (s : S45) : Int :=
  if s.f0 ≠ 5 then 1
  else if nameB s.f1 = false then 3
  else if s.f3.any (fun n => !(nameB n)) = true then 3
  else if s.f3.length ≠ s.f9.length ∨ s.f3.length < 1 ∨ 8 < s.f3.length then 3
  else if s.f9.any (fun k => !(decide (1 ≤ k) && decide (k ≤ 5))) = true then 3
  else if 0 ≤ idxL (tName s.f1) ts 0 then 6
  else if twiceB [] s.f3 = true then 6
  else if 4 ≤ ts.length then 4
  else if 60000 ≤ nx then 4 else 0
theorem createP_eq {v : Int} {ts : List S70} {nx : Int} (h : nxtE v ts nx = 0) (s : S45) : createP v ts nx s = if crE ts nx s ≠ 0 then noTold (crE ts nx s) else ⟨v + 1, ts ++ [⟨mx nx 1, s.f1, keyed (newColsG 0 s.f3 s.f9), [], (s.f3.length : Int) + 1⟩], mx nx 1 + 1, 0, 0, 0⟩ := by
  have hsch : schB v ts nx = true ∧ ¬ 1099511627775 ≤ v := by
    unfold nxtE at h
    by_cases h1 : schB v ts nx = false
    · rw [if_pos h1] at h; cases h
    · rw [if_neg h1] at h
      refine ⟨by simpa using h1, fun h2 => ?_⟩
      rw [if_pos h2] at h
      cases h
  unfold createP
  rw [if_neg (by rw [hsch.1]; simp), if_neg hsch.2]
  generalize he : crE ts nx s = e
  unfold crE at he
  by_cases h0 : s.f0 ≠ 5
  · rw [if_pos h0] at he ⊢; subst he; rfl
  rw [if_neg h0] at he ⊢
  by_cases h1 : nameB s.f1 = false
  · rw [if_pos h1] at he; rw [if_pos (.inl h1)]; subst he; rfl
  rw [if_neg h1] at he
  by_cases h3 : s.f3.length ≠ s.f9.length ∨ s.f3.length < 1 ∨ 8 < s.f3.length
  · rw [if_pos (.inr h3)]
    have : e = 3 := by
      split at he
      · exact he.symm
      · first | exact he.symm | (rw [if_pos h3] at he; exact he.symm)
    subst this; rfl
  rw [if_neg (fun h => h.elim h1 h3)]
  have hl : s.f3.length = s.f9.length := by omega
  rw [if_neg h3] at he
  rw [badCols_any _ _ hl]
  cases ha : s.f3.any (fun n => !(nameB n)) with
  | true => rw [ha, if_pos rfl] at he; subst he; rfl
  | false =>
    rw [ha, if_neg (by simp)] at he
    cases hb : s.f9.any (fun k => !(decide (1 ≤ k) && decide (k ≤ 5))) with
    | true => rw [hb, if_pos rfl] at he; subst he; rfl
    | false =>
      rw [hb, if_neg (by simp)] at he
      rw [if_neg (by simp)]
      by_cases h6 : 0 ≤ idxL (tName s.f1) ts 0
      · rw [if_pos h6] at he; rw [if_pos (.inl h6)]; subst he; rfl
      rw [if_neg h6] at he
      by_cases h7 : twiceB [] s.f3 = true
      · rw [if_pos h7] at he; rw [if_pos (.inr h7)]; subst he; rfl
      rw [if_neg h7] at he
      rw [if_neg (fun h => h.elim h6 h7)]
      by_cases h8 : 4 ≤ ts.length
      · rw [if_pos h8] at he; rw [if_pos (.inl h8)]; subst he; rfl
      rw [if_neg h8] at he
      by_cases h9 : 60000 ≤ nx
      · rw [if_pos h9] at he; rw [if_pos (.inr h9)]; subst he; rfl
      rw [if_neg h9] at he
      rw [if_neg (fun h => h.elim h8 h9)]
      subst he
      rw [if_neg (by simp), newCols_keyed]
structure CgSt (w W : World) (bx sx yc : Array Value) (Y : Nat) (u : Value) (ts : List S70) : Prop where
  x : Bxs w W bx sx
  y : W.heap[Y]? = some (.cells yc 28 (0, 0))
  s : k70.R 70 W w.heap.size (fun _ => True) u ts
theorem CgSt.step {w W W1 : World} {bx sx yc : Array Value} {Y : Nat} {u : Value} {ts : List S70} (h : CgSt w W bx sx yc Y u ts) (hb : Below W.heap.size W W1) : CgSt w W1 bx sx yc Y u ts := ⟨h.x.step hb, blk_below h.y hb, Kd.R_below h.s hb⟩
theorem CrSt.key {w2 wr : World} {id n4 : Int} {nm_ : ByteArray} {gi m c : Nat} {l : List S75} (h : CrSt w2 wr id nm_ n4 (.slice (some ⟨gi, 0, none⟩) m c) l) (hl : 0 < l.length) :
    CrSt w2 (wr.setCell ⟨gi, 4, none⟩ (.int .i64 4)) id nm_ n4 (.slice (some ⟨gi, 0, none⟩) m c) (keyed l) := by
  have hm := (Kd.R_reads' h.row).1
  obtain ⟨cs, hcl, hM, hcc, _⟩ := Kd.R_elem h.row z75 ((0 : Nat) : Int) (by omega) (by omega)
  rw [show l.getD ((0 : Nat) : Int).toNat z75 = l[0] by simp [List.getD, hl]] at hM
  obtain rfl := k75_openM hM
  obtain ⟨hr, hg⟩ := Kd.R_seg h.row ((0 : Nat) : Int) (by omega) (by omega) (seg := [.int .i64 4]) (j := 4) hcl hcc (Nat.le_of_ble_eq_true rfl) (x' := ⟨l[0].f0, l[0].f1, l[0].f2, l[0].f3, 4, l[0].f5⟩) (k75_mkM wr w2.heap.size _ ⟨l[0].f0, l[0].f1, l[0].f2, l[0].f3, 4, l[0].f5⟩) (okp := fun _ => False) (fun k hk => hk.elim)
  have hr2 : k75.R 75 (wr.setCell ⟨gi, 4, none⟩ (.int .i64 4)) w2.heap.size (fun _ => True) (.slice (some ⟨gi, 0, none⟩) m c) (l.set 0 ⟨l[0].f0, l[0].f1, l[0].f2, l[0].f3, 4, l[0].f5⟩) := by
    exact hr
  rw [keyed_set hl]
  have hbase := Kd.R_base h.row gi (by simp [Value.ownBlock])
  have hne := Kd.R_ne h.row h.box (by decide)
  refine ⟨h.below.setCell (p := ⟨gi, 4, none⟩) hbase _, ?_, hr2⟩
  exact blk_far h.box (p := ⟨gi, 4, none⟩) (fun e => hne (by rw [e]; simp [Value.ownBlock])) _
theorem name93_calls (n : ByteArray) (w : World) (hG : GL w) : Calls Tryd.prog 93 #[.string n] w fun e w' => e = .returned (.bool (!(nameB n))) ∧ Below w.heap.size w w' := pred93 w hG w n (Below.refl _ _)
theorem nxtE_neC {v : Int} {ts : List S70} {nx : Int} (h : nxtE v ts nx ≠ 0) {s : S45} : createP v ts nx s = noTold (nxtE v ts nx) := by
  unfold nxtE at h ⊢
  unfold createP
  by_cases h1 : schB v ts nx = false
  · rw [if_pos h1, if_pos h1]
  · rw [if_neg h1] at h ⊢
    rw [if_neg h1]
    by_cases h2 : 1099511627775 ≤ v
    · rw [if_pos h2, if_pos h2]
    · rw [if_neg h2] at h
      exact absurd rfl h
theorem nxtE_eqC {v : Int} {ts : List S70} {nx : Int} (h : nxtE v ts nx = 0) : schB v ts nx = true ∧ ¬ 1099511627775 ≤ v := by
  unfold nxtE at h
  by_cases h1 : schB v ts nx = false
  · rw [if_pos h1] at h; cases h
  · rw [if_neg h1] at h
    refine ⟨by simpa using h1, fun h2 => ?_⟩
    rw [if_pos h2] at h
    cases h
set_option maxRecDepth 100000 in
set_option maxHeartbeats 8000000 in
theorem createG_calls (v : Int) (ts : List S70) (nx : Int) (s : S45) (hwf : ∀ t ∈ ts, TabWf t) (hv64 : -9223372036854775808 ≤ v ∧ v < 9223372036854775808) (A : Option Addr) (c : Nat) (w : World) (hG : GL w) (hc : ts.length ≤ c) (hC : k70.C w A ts.length ts) (cs : List Value) (hs : k45.K w s cs) (hok : StmtOk s) :
    Calls Tryd.prog 49 #[.agg #[.int .i64 v, .slice A ts.length c, .int .i64 nx], .agg cs.toArray] w (TellsE w (createP v ts nx s)) := by
  obtain ⟨A3, c3, A4, c4, A5, c5, A6, c6, A9, c9, rfl, l3, g3, -, -, -, -, -, -, l9, g9⟩ := k45_open hs
  have HC3 := Aside0.mk g3
  have HC9 := Aside0.mk g9
  have HC := Aside0.mk hC
  have hl3 := hok.1
  have hl9 := hok.2.2.1
  obtain ⟨w0, hw0⟩ : ∃ w0, w0 = ((w.alloc (.cells #[.int .i64 v, .slice A ts.length c, .int .i64 nx] 28)).alloc (.cells #[.int .i64 s.f0, .string s.f1, .string s.f2, .slice A3 s.f3.length c3, .slice A4 s.f4.length c4, .slice A5 s.f5.length c5, .slice A6 s.f6.length c6, .bool s.f7, .int .i64 s.f8, .slice A9 s.f9.length c9] 45)).alloc (.cells #[.int .i64 0, .slice none 0 0, .int .i64 0] 28) := ⟨_, rfl⟩
  have hX0 : Bxs w w0 #[.int .i64 v, .slice A ts.length c, .int .i64 nx] #[.int .i64 s.f0, .string s.f1, .string s.f2, .slice A3 s.f3.length c3, .slice A4 s.f4.length c4, .slice A5 s.f5.length c5, .slice A6 s.f6.length c6, .bool s.f7, .int .i64 s.f8, .slice A9 s.f9.length c9] := by rw [hw0]; exact Bxs.new w _ _
  have HM := Lib.hid (cnext_calls v ts nx hwf hv64 A c w0 (hG.of_below hX0.below) hc (Kd.C_below hC hX0.below))
  have HGL := Lib.hid hG
  have HWF := Lib.hid hwf
  have hx0 := blk_cell (j := 0) (v := .int .i64 v) hX0.b0 rfl
  have hx1 := blk_cell (j := 1) (v := .slice A ts.length c) hX0.b0 rfl
  have hx2 := blk_cell (j := 2) (v := .int .i64 nx) hX0.b0 rfl
  have HX0 := Aside0.mk hX0
  have HW0 := Lib.hid hw0
  rw [hw0] at HM hx0 hx1 hx2
  obtain ⟨R, hR⟩ : ∃ R, createP v ts nx s = R := ⟨_, rfl⟩
  rw [hR]
  clear hX0 hC hG hwf hw0 hs hok g3 g9
  by_cases hn : nxtE v ts nx = 0
  rotate_left
  · have HR := Lib.hid (show R = noTold (nxtE v ts nx) by rw [← hR, nxtE_neC hn])
    obtain ⟨er, her⟩ : ∃ er, nxtE v ts nx = er := ⟨_, rfl⟩
    rw [her] at HR hn
    have hq : (er != 0) = true := by simpa using hn
    have HER := Lib.hid her
    clear hR her
    go_enter Tryd.func49, Tryd.ntmps49
    go_wp2_with fail
    refine HM.out.mono ?_
    rw [← HW0.out]
    rintro e w1 ⟨hb1, ⟨-, rfl⟩ | ⟨h, -⟩⟩
    rotate_left
    · exact absurd (HER.out.symm.trans h) hn
    rw [HER.out]
    have hX1 := HX0.out.step hb1
    have f0 := blk_frozen hX1.b2 0
    have f1 := blk_frozen hX1.b2 1
    have f2 := blk_frozen hX1.b2 2
    have c0 := blk_cell (j := 0) (v := .int .i64 0) hX1.b2 rfl
    have c1 := blk_cell (j := 1) (v := .slice none 0 0) hX1.b2 rfl
    have c2 := blk_cell (j := 2) (v := .int .i64 0) hX1.b2 rfl
    have hx3 := lt_of_block hX1.b2
    have hz := blk_alloc (blk_put (blk_put (blk_put hX1.b2 0 (.int .i64 0) rfl) 1 (.slice none 0 0) rfl) 2 (.int .i64 0) rfl) (.cells #[.int .i64 0, .slice none 0 0, .int .i64 0] 28)
    have hbz := below_alloc (hX1.out (.int .i64 0) (.slice none 0 0) (.int .i64 0)) (.cells #[.int .i64 0, .slice none 0 0, .int .i64 0] 28)
    have HBZ := Aside0.mk (And.intro hz hbz)
    clear hb1 hx0 hx1 hx2 hz hbz hX1
    go_wp2
    refine bodyPost_ret (v := .tuple #[.agg #[.int .i64 0, .slice none 0 0, .int .i64 0], .int .i64 er]) (by have r0 := blk_cell (j := 0) (v := .int .i64 0) HBZ.out.1 rfl; have r1 := blk_cell (j := 1) (v := .slice none 0 0) HBZ.out.1 rfl; have r2 := blk_cell (j := 2) (v := .int .i64 0) HBZ.out.1 rfl; simp [results, Tryd.results49, go_sem, r0, r1, r2]) rfl (tellse_no HR.out HBZ.out.2)
  have HN := Lib.hid hn
  have HI := Lib.hid (hR.symm.trans (createP_eq hn s))
  obtain ⟨er, her⟩ : ∃ er, crE ts nx s = er := ⟨_, rfl⟩
  rw [her] at HI
  have HE := Lib.hid her
  have HE1 := Lib.hid (her.symm.trans (show crE ts nx s = _ by unfold crE; exact rfl))
  have HSC := Lib.hid (nxtE_eqC hn).1
  have hnn : 0 ≤ nx ∧ nx < 1099511627776 := by have := HSC.out; unfold schB at this; simp only [Bool.and_eq_true, decide_eq_true_eq] at this; exact ⟨this.2.2.1, this.2.2.2.1⟩
  obtain ⟨hn0, hn1⟩ := hnn
  have hts4 : ts.length ≤ 4 := (schB_len HSC.out).2
  clear hR hn her
  go_enter Tryd.func49, Tryd.ntmps49
  go_wp2_with fail
  refine HM.out.mono ?_
  rw [← HW0.out]
  rintro e w1 ⟨hb1, ⟨h, -⟩ | ⟨-, u, rfl, hS⟩⟩
  · exact absurd HN.out h
  have hS' := Kd.S_lower hS HX0.out.below.size
  obtain ⟨Au, cu, rfl⟩ := Kd.S_slice hS'
  have hX1 := HX0.out.step hb1
  have hba := below_alloc (Below.refl _ w1) (.cells #[.int .i64 (v + 1), .slice Au ts.length cu, .int .i64 nx] 28)
  have hCG : CgSt w (w1.alloc (.cells #[.int .i64 (v + 1), .slice Au ts.length cu, .int .i64 nx] 28)) #[.int .i64 v, .slice A ts.length c, .int .i64 nx] #[.int .i64 s.f0, .string s.f1, .string s.f2, .slice A3 s.f3.length c3, .slice A4 s.f4.length c4, .slice A5 s.f5.length c5, .slice A6 s.f6.length c6, .bool s.f7, .int .i64 s.f8, .slice A9 s.f9.length c9] #[.int .i64 (v + 1), .slice Au ts.length cu, .int .i64 nx] w1.heap.size (.slice Au ts.length cu) ts :=
    ⟨hX1.step hba, heap_alloc_new w1 _, Kd.R_below (Kd.S_R hS') hba⟩
  have hYw : w.heap.size + 1 + 1 < w1.heap.size := lt_of_block hX1.b2
  have x0 := blk_cell (j := 0) (v := .int .i64 v) hX1.b0 rfl
  have x1 := blk_cell (j := 1) (v := .slice A ts.length c) hX1.b0 rfl
  have x2 := blk_cell (j := 2) (v := .int .i64 nx) hX1.b0 rfl
  have s1 := blk_cell (j := 1) (v := .string s.f1) hX1.b1 rfl
  have HQ := Lib.hid (tableC_calls v ts nx s.f1 HWF.out A c _ (HGL.out.of_below hCG.x.below) hc (Kd.C_below HC.out hCG.x.below))
  have HG1 := Aside0.mk hCG
  have hq9 : w.heap.size < w1.heap.size ∧ w.heap.size + 1 < w1.heap.size := by omega
  obtain ⟨hq9a, hq9b⟩ := hq9
  clear hb1 hS hS' hX1 hba hCG hx0 hx1 hx2
  go_wp2_with fail
  refine HQ.out.mono ?_
  clear HQ x0 x1 x2 s1
  obtain ⟨Y, hY⟩ : ∃ Y, Y = w1.heap.size := ⟨_, rfl⟩
  rw [← hY] at HG1 hYw hq9a hq9b
  have hix : (TabP v ts nx s.f1) = idxL (tName s.f1) ts 0 := by unfold TabP; rw [if_neg (by rw [HSC.out]; simp)]
  have hthere : ∃ th : Bool, th = decide (0 ≤ idxL (tName s.f1) ts 0) := ⟨_, rfl⟩
  obtain ⟨th, hth⟩ := hthere
  have HTH := Lib.hid hth
  have HYY := Lib.hid hY
  clear hth
  rintro e w2 ⟨hb2, hcase⟩
  have hwb : (w1.alloc (.cells #[.int .i64 (v + 1), .slice Au ts.length cu, .int .i64 nx] 28)).heap.size = w1.heap.size + 1 := by simp
  have HG2 := Aside0.mk (HG1.out.step hb2)
  have hres : ∃ i0 n0 B2 m2 d2 B3 m3 d3 i4, e = .returned (.tuple #[.agg #[.int .i64 i0, .string n0, .slice B2 m2 d2, .slice B3 m3 d3, .int .i64 i4], .bool th]) := by
    rcases hcase with ⟨h1, rfl⟩ | ⟨k, hk, h1, cs', rfl, hK⟩
    · have : th = false := by rw [HTH.out]; exact decide_eq_false (by omega)
      subst this
      exact ⟨_, _, _, _, _, _, _, _, _, rfl⟩
    · have : th = true := by rw [HTH.out]; exact decide_eq_true (by omega)
      subst this
      obtain ⟨B2, d2, B3, d3, rfl, -⟩ := k70_open hK
      exact ⟨_, _, _, _, _, _, _, _, _, rfl⟩
  obtain ⟨i0, n0, B2, m2, d2, B3, m3, d3, i4, rfl⟩ := hres
  have HG3 := Aside0.mk (HG2.out.step (below_alloc (Below.refl _ w2) (.cells #[.int .i64 i0, .string n0, .slice B2 m2 d2, .slice B3 m3 d3, .int .i64 i4] 70)))
  have s0 := blk_cell (j := 0) (v := .int .i64 s.f0) HG2.out.x.b1 rfl
  have s1 := blk_cell (j := 1) (v := .string s.f1) HG2.out.x.b1 rfl
  have hY2 : w.heap.size + 1 + 1 < w2.heap.size := lt_of_block HG2.out.x.b2
  have hY3 : w.heap.size + 1 < w2.heap.size := by omega
  clear hb2 hcase hix hwb HG1
  by_cases h5 : ¬ s.f0 = 5
  · have hd5 : (s.f0 != 5) = true := by simpa using h5
    obtain rfl : er = 1 := by rw [HE1.out, if_pos h5]
    have HR := Lib.hid (show R = noTold 1 by rw [HI.out, if_pos (by decide)])
    have f0 := blk_frozen HG2.out.x.b2 0
    have f1 := blk_frozen HG2.out.x.b2 1
    have f2 := blk_frozen HG2.out.x.b2 2
    have c0 := blk_cell (j := 0) (v := .int .i64 0) HG2.out.x.b2 rfl
    have c1 := blk_cell (j := 1) (v := .slice none 0 0) HG2.out.x.b2 rfl
    have c2 := blk_cell (j := 2) (v := .int .i64 0) HG2.out.x.b2 rfl
    have hz := blk_alloc (blk_put (blk_put (blk_put HG2.out.x.b2 0 (.int .i64 0) rfl) 1 (.slice none 0 0) rfl) 2 (.int .i64 0) rfl) (.cells #[.int .i64 i0, .string n0, .slice B2 m2 d2, .slice B3 m3 d3, .int .i64 i4] 70)
    have hbz := below_alloc (HG2.out.x.out (.int .i64 0) (.slice none 0 0) (.int .i64 0)) (.cells #[.int .i64 i0, .string n0, .slice B2 m2 d2, .slice B3 m3 d3, .int .i64 i4] 70)
    have HBZ := Aside0.mk (And.intro hz hbz)
    clear hz hbz h5 HE1
    go_wp2
    refine bodyPost_ret (v := .tuple #[.agg #[.int .i64 0, .slice none 0 0, .int .i64 0], .int .i64 1]) (by have r0 := blk_cell (j := 0) (v := .int .i64 0) HBZ.out.1 rfl; have r1 := blk_cell (j := 1) (v := .slice none 0 0) HBZ.out.1 rfl; have r2 := blk_cell (j := 2) (v := .int .i64 0) HBZ.out.1 rfl; simp [results, Tryd.results49, go_sem, r0, r1, r2]) rfl (tellse_no HR.out HBZ.out.2)
  have hd5 : (s.f0 != 5) = false := by simpa using h5
  have HE2 := Lib.hid (HE1.out.trans (if_neg h5))
  have HN93 := Lib.hid enters93
  clear h5 HE1
  go_wp2_with fail
  refine (name93_calls s.f1 _ (HGL.out.of_below HG3.out.x.below)).mono ?_
  rintro e w4 ⟨rfl, hb4⟩
  have HG4 := Aside0.mk (HG3.out.step hb4)
  clear hb4 s0 s1 HG2 HG3 hY2 hY3 hd5
  have s3 := blk_cell (j := 3) (v := .slice A3 s.f3.length c3) HG4.out.x.b1 rfl
  cases hnm : nameB s.f1 with
  | false =>
    obtain rfl : er = 3 := by rw [HE2.out, if_pos hnm]
    have HR := Lib.hid (show R = noTold 3 by rw [HI.out, if_pos (by decide)])
    have f0 := blk_frozen HG4.out.x.b2 0
    have f1 := blk_frozen HG4.out.x.b2 1
    have f2 := blk_frozen HG4.out.x.b2 2
    have c0 := blk_cell (j := 0) (v := .int .i64 0) HG4.out.x.b2 rfl
    have c1 := blk_cell (j := 1) (v := .slice none 0 0) HG4.out.x.b2 rfl
    have c2 := blk_cell (j := 2) (v := .int .i64 0) HG4.out.x.b2 rfl
    clear s3
    go_wp2
    all_goals
      refine bodyPost_ret (v := .tuple #[.agg #[.int .i64 0, .slice none 0 0, .int .i64 0], .int .i64 3]) (by simp [results, Tryd.results49, go_sem, c0, c1, c2]) rfl (tellse_no HR.out (HG4.out.x.out _ _ _))
  | true =>
  have HE3 := Lib.hid (HE2.out.trans (if_neg (by rw [hnm]; simp)))
  clear hnm HE2
  go_wp2_with fail
  refine (any94 93 #[] enters93 (fun n => !(nameB n)) A3 c3 s.f3 w4 (Kd.C_below HC3.out HG4.out.x.below) (pred93 _ (HGL.out.of_below HG4.out.x.below))).mono ?_
  rintro e w5 ⟨rfl, hb5⟩
  have HG5 := Aside0.mk (HG4.out.step hb5)
  clear hb5 s3 HG4
  have s3 := blk_cell (j := 3) (v := .slice A3 s.f3.length c3) HG5.out.x.b1 rfl
  have s9 := blk_cell (j := 9) (v := .slice A9 s.f9.length c9) HG5.out.x.b1 rfl
  cases han : s.f3.any (fun n => !(nameB n)) with
  | true =>
    obtain rfl : er = 3 := by rw [HE3.out, if_pos han]
    have HR := Lib.hid (show R = noTold 3 by rw [HI.out, if_pos (by decide)])
    have f0 := blk_frozen HG5.out.x.b2 0
    have f1 := blk_frozen HG5.out.x.b2 1
    have f2 := blk_frozen HG5.out.x.b2 2
    have c0 := blk_cell (j := 0) (v := .int .i64 0) HG5.out.x.b2 rfl
    have c1 := blk_cell (j := 1) (v := .slice none 0 0) HG5.out.x.b2 rfl
    have c2 := blk_cell (j := 2) (v := .int .i64 0) HG5.out.x.b2 rfl
    clear s3 s9
    go_wp2
    all_goals
      refine bodyPost_ret (v := .tuple #[.agg #[.int .i64 0, .slice none 0 0, .int .i64 0], .int .i64 3]) (by simp [results, Tryd.results49, go_sem, c0, c1, c2]) rfl (tellse_no HR.out (HG5.out.x.out _ _ _))
  | false =>
  have HE4 := Lib.hid (HE3.out.trans (if_neg (by rw [han]; simp)))
  clear han HE3
  by_cases hbad : s.f3.length ≠ s.f9.length ∨ s.f3.length < 1 ∨ 8 < s.f3.length
  · have hbad' : ((s.f3.length : Int) != (s.f9.length : Int)) = true ∨ (((s.f3.length : Int) != (s.f9.length : Int)) = false ∧ decide ((s.f3.length : Int) < 1) = true) ∨ (((s.f3.length : Int) != (s.f9.length : Int)) = false ∧ decide ((s.f3.length : Int) < 1) = false ∧ decide (8 < (s.f3.length : Int)) = true) := by
      by_cases h1 : s.f3.length = s.f9.length
      · have e1 : ((s.f3.length : Int) != (s.f9.length : Int)) = false := by rw [h1]; simp
        by_cases h2 : s.f3.length < 1
        · exact .inr (.inl ⟨e1, decide_eq_true (by omega)⟩)
        · exact .inr (.inr ⟨e1, decide_eq_false (by omega), decide_eq_true (by omega)⟩)
      · exact .inl (by rw [bne_iff_ne]; omega)
    obtain rfl : er = 3 := by rw [HE4.out, if_pos hbad]
    have HR := Lib.hid (show R = noTold 3 by rw [HI.out, if_pos (by decide)])
    have f0 := blk_frozen HG5.out.x.b2 0
    have f1 := blk_frozen HG5.out.x.b2 1
    have f2 := blk_frozen HG5.out.x.b2 2
    have c0 := blk_cell (j := 0) (v := .int .i64 0) HG5.out.x.b2 rfl
    have c1 := blk_cell (j := 1) (v := .slice none 0 0) HG5.out.x.b2 rfl
    have c2 := blk_cell (j := 2) (v := .int .i64 0) HG5.out.x.b2 rfl
    clear hbad HE4
    rcases hbad' with h1 | ⟨h1, h2⟩ | ⟨h1, h2, h3⟩
    all_goals
      go_wp2
      refine bodyPost_ret (v := .tuple #[.agg #[.int .i64 0, .slice none 0 0, .int .i64 0], .int .i64 3]) (by simp [results, Tryd.results49, go_sem, c0, c1, c2]) rfl (tellse_no HR.out (HG5.out.x.out _ _ _))
  have HE5 := Lib.hid (HE4.out.trans (if_neg hbad))
  have hl : s.f3.length = s.f9.length := by omega
  have hdl : ((s.f3.length : Int) != (s.f9.length : Int)) = false := by rw [hl]; simp
  have hd1 : decide ((s.f3.length : Int) < 1) = false := decide_eq_false (by omega)
  have hd8 : decide (8 < (s.f3.length : Int)) = false := decide_eq_false (by omega)
  have hlo : 1 ≤ s.f3.length := by omega
  have hhi : s.f3.length ≤ 8 := by omega
  have HLL := Lib.hid hl
  clear hbad HE4 hl
  go_wp2_with fail
  refine (any95 96 #[] enters96 (fun k => !(decide (1 ≤ k) && decide (k ≤ 5))) A9 c9 s.f9 w5 (Kd.C_below HC9.out HG5.out.x.below) (pred96 _)).mono ?_
  rintro e w6 ⟨rfl, hb6⟩
  have HG6 := Aside0.mk (HG5.out.step hb6)
  clear hb6 s3 s9 HG5 hdl hd1 hd8
  have s3 := blk_cell (j := 3) (v := .slice A3 s.f3.length c3) HG6.out.x.b1 rfl
  obtain ⟨q9, hq9⟩ : ∃ q, s.f9.any (fun k => !(decide (1 ≤ k) && decide (k ≤ 5))) = q := ⟨_, rfl⟩
  have HE5q := HE5.out
  rw [hq9] at HE5q ⊢
  cases q9 with
  | true =>
    obtain rfl : er = 3 := by rw [HE5q, if_pos rfl]
    have HR := Lib.hid (show R = noTold 3 by rw [HI.out, if_pos (by decide)])
    have f0 := blk_frozen HG6.out.x.b2 0
    have f1 := blk_frozen HG6.out.x.b2 1
    have f2 := blk_frozen HG6.out.x.b2 2
    have c0 := blk_cell (j := 0) (v := .int .i64 0) HG6.out.x.b2 rfl
    have c1 := blk_cell (j := 1) (v := .slice none 0 0) HG6.out.x.b2 rfl
    have c2 := blk_cell (j := 2) (v := .int .i64 0) HG6.out.x.b2 rfl
    clear s3 HE5q
    go_wp2
    all_goals
      refine bodyPost_ret (v := .tuple #[.agg #[.int .i64 0, .slice none 0 0, .int .i64 0], .int .i64 3]) (by simp [results, Tryd.results49, go_sem, c0, c1, c2]) rfl (tellse_no HR.out (HG6.out.x.out _ _ _))
  | false =>
  have HE6 := Lib.hid (HE5q.trans (if_neg (by simp)))
  clear hq9 HE5q HE5
  have hthv := HTH.out
  cases hth : th with
  | true =>
    rw [hth] at hthv
    subst hth
    have h6 : 0 ≤ idxL (tName s.f1) ts 0 := of_decide_eq_true hthv.symm
    obtain rfl : er = 6 := by rw [HE6.out, if_pos h6]
    have HR := Lib.hid (show R = noTold 6 by rw [HI.out, if_pos (by decide)])
    have f0 := blk_frozen HG6.out.x.b2 0
    have f1 := blk_frozen HG6.out.x.b2 1
    have f2 := blk_frozen HG6.out.x.b2 2
    have c0 := blk_cell (j := 0) (v := .int .i64 0) HG6.out.x.b2 rfl
    have c1 := blk_cell (j := 1) (v := .slice none 0 0) HG6.out.x.b2 rfl
    have c2 := blk_cell (j := 2) (v := .int .i64 0) HG6.out.x.b2 rfl
    clear s3 h6 hthv
    go_wp2
    all_goals
      refine bodyPost_ret (v := .tuple #[.agg #[.int .i64 0, .slice none 0 0, .int .i64 0], .int .i64 6]) (by simp [results, Tryd.results49, go_sem, c0, c1, c2]) rfl (tellse_no HR.out (HG6.out.x.out _ _ _))
  | false =>
  rw [hth] at hthv
  subst hth
  have h6 : ¬ 0 ≤ idxL (tName s.f1) ts 0 := of_decide_eq_false hthv.symm
  have HE7 := Lib.hid (HE6.out.trans (if_neg h6))
  clear h6 hthv HE6
  go_wp2_with fail
  refine (twice98_calls s.f3 (by omega) A3 c3 w6 l3 (Kd.C_below HC3.out HG6.out.x.below)).mono ?_
  rintro e w7 ⟨rfl, hb7⟩
  have HG7 := Aside0.mk (HG6.out.step hb7)
  clear hb7 s3 HG6
  cases htw : twiceB [] s.f3 with
  | true =>
    obtain rfl : er = 6 := by rw [HE7.out, if_pos htw]
    have HR := Lib.hid (show R = noTold 6 by rw [HI.out, if_pos (by decide)])
    have f0 := blk_frozen HG7.out.x.b2 0
    have f1 := blk_frozen HG7.out.x.b2 1
    have f2 := blk_frozen HG7.out.x.b2 2
    have c0 := blk_cell (j := 0) (v := .int .i64 0) HG7.out.x.b2 rfl
    have c1 := blk_cell (j := 1) (v := .slice none 0 0) HG7.out.x.b2 rfl
    have c2 := blk_cell (j := 2) (v := .int .i64 0) HG7.out.x.b2 rfl
    go_wp2
    all_goals
      refine bodyPost_ret (v := .tuple #[.agg #[.int .i64 0, .slice none 0 0, .int .i64 0], .int .i64 6]) (by simp [results, Tryd.results49, go_sem, c0, c1, c2]) rfl (tellse_no HR.out (HG7.out.x.out _ _ _))
  | false =>
  have HE8 := Lib.hid (HE7.out.trans (if_neg (by rw [htw]; simp)))
  clear htw HE7
  have x1 := blk_cell (j := 1) (v := .slice A ts.length c) HG7.out.x.b0 rfl
  have x2 := blk_cell (j := 2) (v := .int .i64 nx) HG7.out.x.b0 rfl
  by_cases h4 : 4 ≤ ts.length
  · have hd4 : ((ts.length : Int) == 4) = true := by rw [beq_iff_eq]; omega
    obtain rfl : er = 4 := by rw [HE8.out, if_pos h4]
    have HR := Lib.hid (show R = noTold 4 by rw [HI.out, if_pos (by decide)])
    have f0 := blk_frozen HG7.out.x.b2 0
    have f1 := blk_frozen HG7.out.x.b2 1
    have f2 := blk_frozen HG7.out.x.b2 2
    have c0 := blk_cell (j := 0) (v := .int .i64 0) HG7.out.x.b2 rfl
    have c1 := blk_cell (j := 1) (v := .slice none 0 0) HG7.out.x.b2 rfl
    have c2 := blk_cell (j := 2) (v := .int .i64 0) HG7.out.x.b2 rfl
    clear h4
    go_wp2
    all_goals
      refine bodyPost_ret (v := .tuple #[.agg #[.int .i64 0, .slice none 0 0, .int .i64 0], .int .i64 4]) (by simp [results, Tryd.results49, go_sem, c0, c1, c2]) rfl (tellse_no HR.out (HG7.out.x.out _ _ _))
  have hd4 : ((ts.length : Int) == 4) = false := by rw [beq_eq_false_iff_ne]; omega
  have HE9 := Lib.hid (HE8.out.trans (if_neg h4))
  by_cases h60 : 60000 ≤ nx
  · have hd6 : decide (60000 ≤ nx) = true := decide_eq_true h60
    obtain rfl : er = 4 := by rw [HE9.out, if_pos h60]
    have HR := Lib.hid (show R = noTold 4 by rw [HI.out, if_pos (by decide)])
    have f0 := blk_frozen HG7.out.x.b2 0
    have f1 := blk_frozen HG7.out.x.b2 1
    have f2 := blk_frozen HG7.out.x.b2 2
    have c0 := blk_cell (j := 0) (v := .int .i64 0) HG7.out.x.b2 rfl
    have c1 := blk_cell (j := 1) (v := .slice none 0 0) HG7.out.x.b2 rfl
    have c2 := blk_cell (j := 2) (v := .int .i64 0) HG7.out.x.b2 rfl
    clear h4 h60
    go_wp2
    all_goals
      refine bodyPost_ret (v := .tuple #[.agg #[.int .i64 0, .slice none 0 0, .int .i64 0], .int .i64 4]) (by simp [results, Tryd.results49, go_sem, c0, c1, c2]) rfl (tellse_no HR.out (HG7.out.x.out _ _ _))
  have hd6 : decide (60000 ≤ nx) = false := decide_eq_false h60
  obtain rfl : er = 0 := by rw [HE9.out, if_neg h60]
  have HR := Lib.hid (HI.out.trans (if_neg (by simp)))
  have s1 := blk_cell (j := 1) (v := .string s.f1) HG7.out.x.b1 rfl
  have s3 := blk_cell (j := 3) (v := .slice A3 s.f3.length c3) HG7.out.x.b1 rfl
  obtain ⟨id, hid⟩ : ∃ id, mx nx 1 = id := ⟨_, rfl⟩
  have hm : (if nx < 1 then (1 : Int) else nx) = id := hid
  have HID := Lib.hid hid
  have hid0 : 1 ≤ id ∧ id < 1099511627776 := by rw [← hid]; unfold mx; split <;> omega
  have hlts : ts.length < 4 := by omega
  have HS0 := Aside0.mk (CrSt.new w7 id s.f1 ((s.f3.length : Int) + 1))
  have hy7 : w.heap.size + 1 < w7.heap.size := lt_of_block HG7.out.x.b1
  clear h4 h60 HE8 HE9 hid HI
  go_wp2_with fail
  clear hm x1 x2 s1 s3 hd4 hd6
  obtain ⟨hid1, hid2⟩ := hid0
  subst hY
  go_loopg [12, 13, 93] s.f3.length (fun gg _ _ u93 wr => ∃ j : Nat, ∃ cv : Value, ∃ l : List S75, j ≤ s.f3.length ∧ s.f3.length - j ≤ gg ∧ u93 = .int .i64 j ∧ Aside0 (CrSt w7 wr id s.f1 ((s.f3.length : Int) + 1) cv l) ∧ Aside0 (l.length = j) ∧ Aside0 (newColsG 0 s.f3 s.f9 = l ++ newColsG j (s.f3.drop j) (s.f9.drop j)))
  case atStart => exact ⟨0, _, [], Nat.zero_le _, by omega, rfl, HS0, ⟨rfl⟩, ⟨by rw [List.drop_zero, List.drop_zero]; rfl⟩⟩
  case round =>
    clear HS0
    obtain ⟨j, cv, l, hj, hgj, rfl, HS, HJ, HA⟩ := hrel
    obtain ⟨Ac, cc, hcv⟩ := Kd.R_slice HS.out.row
    rw [HJ.out] at hcv
    subst hcv
    have HGr := Aside0.mk (HG7.out.step HS.out.below)
    by_cases hlt : j < s.f3.length
    · have hltz : (j : Int) < (s.f3.length : Int) := by omega
      have hlt9 : j < s.f9.length := by have := HLL.out; omega
      have hltz9 : (j : Int) < (s.f9.length : Int) := by omega
      obtain ⟨a3, eA3, es⟩ := at_str (Kd.C_below HC3.out HGr.out.x.below) j hlt
      obtain ⟨a9, eA9, e9⟩ := at_int (Kd.C_below HC9.out HGr.out.x.below) j hlt9
      cases eA3
      cases eA9
      have hA := HA.out
      rw [List.drop_eq_getElem_cons hlt, List.drop_eq_getElem_cons hlt9] at hA
      generalize s.f3[j] = nme at es hA
      generalize s.f9[j] = kd at e9 hA
      have HA2 := Aside0.mk (show newColsG 0 s.f3 s.f9 = (l ++ [⟨(j : Int) + 1, nme, kd, 4, 0, z73⟩]) ++ newColsG (j + 1) (s.f3.drop (j + 1)) (s.f9.drop (j + 1)) by rw [hA, List.append_assoc]; rfl)
      have s9 := blk_cell (j := 9) (v := .slice (some a9) s.f9.length c9) HGr.out.x.b1 rfl
      have d2 := blk_cell (j := 2) (v := .slice Ac j cc) HS.out.box rfl
      have q1 : w7.heap.size < wr.heap.size := lt_of_block HS.out.box
      have q2 : w.heap.size + 1 < wr.heap.size := lt_of_block HGr.out.x.b1
      have q3 : (a9.add j).block < wr.heap.size := World.block_lt_of_cell? wr _ e9
      have hwj : IntKind.i64.wrap ((j : Int) + 1) = (j : Int) + 1 := IntWalk.i64_in _ (by omega)
      clear hA HA
      go_wp2_with fail
      go_region_law
        ((refine step_R k75 (by rfl) (.tmp 99) (.tmp 109) 67 75 (.agg #[(.int .i64 0), (.string ⟨#[]⟩), (.int .i64 0), (.int .i64 0), (.int .i64 0), (.int .i64 0), (.int .i64 0), (.int .u64 0), (.string ⟨#[]⟩)]) 88 (by rfl) Tryd.underlying67 info75 (by rfl) (by decide) (by decide) w7.heap.size (.slice Ac j cc) l (⟨(j : Int) + 1, nme, kd, 4, 0, z73⟩ : S75) [.int .i64 ((j : Int) + 1), .string nme, .int .i64 kd, .int .i64 4, .int .i64 0, .int .i64 0, .int .i64 0, .int .u64 0, .string ⟨#[]⟩] (fun _ => True) (fun _ => False) (by rfl) (by repeat (first | exact HS.out.row | refine Kd.R_drew ?_ | refine Kd.R_alloc ?_ _)) ⟨wr.heap.size, 0, none⟩ (by rfl) (World.news_of_block (cs := #[_, _, _, _, _, _, _, _, _]) (t := 75) (fr := (0, 0)) (heap_alloc_new wr _)) (k75_mkM _ _ _ (⟨(j : Int) + 1, nme, kd, 4, 0, z73⟩ : S75)) (fun _ h => h.elim) (fun _ _ => trivial) (by simp; omega) (by rw [HJ.out]; omega) ?_; intro A1 c1 w8 hr hg1; have hx1 := (hg1.block w7.heap.size (Nat.lt_of_lt_of_le q1 (by simp)) (Kd.R_ne HS.out.row HS.out.box (by decide))).trans (blk_alloc HS.out.box (.cells #[.int .i64 ((j : Int) + 1), .string nme, .int .i64 kd, .int .i64 4, .int .i64 0, .int .i64 0, .int .i64 0, .int .u64 0, .string ⟨#[]⟩] 75)); have d1 := blk_cell (j := 2) (v := .slice Ac j cc) hx1 rfl; have f1 := blk_frozen hx1 2))
      all_goals
        have hst := HS.out.step (below_drew (below_alloc (Below.refl _ wr) (.cells #[.int .i64 ((j : Int) + 1), .string nme, .int .i64 kd, .int .i64 4, .int .i64 0, .int .i64 0, .int .i64 0, .int .u64 0, .string ⟨#[]⟩] 75)))
        have HN2 := Aside0.mk (hst.next (hst.below.grown hg1 hst.below.size (Kd.R_base hst.row)) hg1 hr)
        clear hst hr hg1 hx1 d1 f1 e9 es d2 s9
        go_wp2
        go_roundg (s.f3.length - (j + 1))
        case measure => omega
        case rel => exact ⟨j + 1, _, l ++ [⟨(j : Int) + 1, nme, kd, 4, 0, z73⟩], by omega, by omega, by go_num, HN2, ⟨by rw [List.length_append, HJ.out]; rfl⟩, HA2⟩
    · have hltz : ¬ (j : Int) < (s.f3.length : Int) := by omega
      obtain rfl : j = s.f3.length := by omega
      have hNC : newColsG 0 s.f3 s.f9 = l := by rw [HA.out, List.drop_eq_nil_of_le (by omega)]; unfold newColsG; exact List.append_nil l
      have HNC := Lib.hid hNC
      have hlp : 0 < l.length := by rw [HJ.out]; omega
      obtain ⟨gi, ci, hgi, -⟩ := Kd.R_form HS.out.row hlp
      obtain rfl : Ac = some ⟨gi, 0, none⟩ := by injection hgi
      obtain ⟨cz, hcl, hM, hcc, hfr⟩ := Kd.R_elem HS.out.row z75 ((0 : Nat) : Int) (by omega) (by omega)
      rw [show l.getD ((0 : Nat) : Int).toNat z75 = l[0] by simp [List.getD, hlp]] at hM
      obtain rfl := k75_openM hM
      have k4 : wr.cell? ⟨gi, 4, none⟩ = some (.int .i64 l[0].f4) := hcc 4 _ rfl
      have kf : wr.frozen? ⟨gi, 4, none⟩ = false := hfr 4
      have hgb : w7.heap.size ≤ gi := Kd.R_base HS.out.row gi (by simp [Value.ownBlock])
      have hgl : gi < wr.heap.size := Kd.R_lt HS.out.row gi (by simp [Value.ownBlock])
      have HK := Aside0.mk (HS.out.key hlp)
      have hs1 := Kd.R_far (Kd.R_below (Kd.R_bound HG7.out.s) HS.out.below) (p := ⟨gi, 4, none⟩) (fun k hk e => by have h1 := hk.2.2.1; have e' : k = gi := e; omega) (.int .i64 4)
      have HU8 := Aside0.mk (Kd.R_mono hs1 (fun k hk => hk.1))
      have HLT := Lib.hid (fun k (hk : (Value.slice Au ts.length cu).ownBlock = some k) => Kd.R_lt HG7.out.s k hk)
      have hzg : ¬ gi = w7.heap.size := fun e => (Kd.R_ne HS.out.row HS.out.box (by decide)) (by rw [← e]; simp [Value.ownBlock])
      have hY7 : w1.heap.size < w7.heap.size := lt_of_block HG7.out.y
      have hR7 : w.heap.size + 1 + 1 < w7.heap.size := lt_of_block HG7.out.x.b2
      have hyg : ¬ gi = w1.heap.size := by omega
      have hrg : ¬ gi = w.heap.size + 1 + 1 := by omega
      have hyz : ¬ w1.heap.size = w7.heap.size := by omega
      have z0 := blk_cell (j := 0) (v := .int .i64 id) HS.out.box rfl
      have z1 := blk_cell (j := 1) (v := .string s.f1) HS.out.box rfl
      have z2 := blk_cell (j := 2) (v := .slice (some ⟨gi, 0, none⟩) s.f3.length cc) HS.out.box rfl
      have z3 := blk_cell (j := 3) (v := .slice none 0 0) HS.out.box rfl
      have z4 := blk_cell (j := 4) (v := .int .i64 ((s.f3.length : Int) + 1)) HS.out.box rfl
      have y1 := blk_cell (j := 1) (v := .slice Au ts.length cu) HGr.out.y rfl
      have HX8 := Aside0.mk (HGr.out.x.far (j := 4) (g := gi) (by omega) (.int .i64 4))
      have HY8 := Aside0.mk (blk_far HGr.out.y (p := ⟨gi, 4, none⟩) (Ne.symm hyg) (.int .i64 4))
      have HSZ8 := Lib.hid (show (wr.setCell ⟨gi, 4, none⟩ (.int .i64 4)).heap.size = wr.heap.size by simp)
      have HCL := Aside0.mk (Kd.R_lower (Kd.R_mono (Kd.R_bound HK.out.row) (fun k hk => hk.2.1) : k75.R 75 (wr.setCell ⟨gi, 4, none⟩ (.int .i64 4)) w7.heap.size (fun k => w7.heap.size ≤ k) (.slice (some ⟨gi, 0, none⟩) s.f3.length cc) (keyed l)) (show w.heap.size ≤ w7.heap.size by omega))
      clear hcl hM hcc hfr hs1 hgi HA hNC
      go_wp2_with ((with_reducible refine gate_builtin (b := .append) (xs := #[.tmp 118, .tmp 120]) rfl ?_); at_builtin; refine Kd.R_append k70 (w0 := w) w.heap.size rfl (.tmp 118) (.tmp 120) 26 70 (.agg #[(.int .i64 0), (.string ⟨#[]⟩), (.slice none 0 0), (.slice none 0 0), (.int .i64 0)]) 80 rfl Tryd.underlying26 info70 rfl (by decide) (by omega) (.slice Au ts.length cu) ts (⟨id, s.f1, keyed l, [], (s.f3.length : Int) + 1⟩ : S70) [.int .i64 id, .string s.f1, .slice (some ⟨gi, 0, none⟩) s.f3.length cc, .slice none 0 0, .int .i64 ((s.f3.length : Int) + 1)] (fun _ => True) (fun k => w7.heap.size ≤ k) rfl ?aX (k70_mkM _ _ _ (⟨id, s.f1, keyed l, [], (s.f3.length : Int) + 1⟩ : S70) HCL.out (Kd.R_nil _ _ _ _ _)) (fun k hk => ⟨trivial, fun e => by have := HLT.out k e.symm; omega⟩) (fun _ _ => trivial) HU8.out HX8.out.below HX8.out.below.size (by omega) ?_; (case aX => rw [HSZ8.out]; rfl); intro v9 w9 hr hb9 hg9 hat9; obtain ⟨A9', c9', h9⟩ := Kd.R_slice hr; rw [show (ts ++ [(⟨id, s.f1, keyed l, [], (s.f3.length : Int) + 1⟩ : S70)]).length = ts.length + 1 by simp] at h9; subst h9; have HR9 := Aside0.mk hr; have hne9 : ∀ {g : Nat} {cs : Array Value}, (wr.setCell ⟨gi, 4, none⟩ (.int .i64 4)).heap[g]? = some (.cells cs 28 (0, 0)) → some g ≠ (Value.slice Au ts.length cu).ownBlock := fun hx => Kd.R_ne HU8.out hx (by decide); have HY9 := Aside0.mk (blk_grown HY8.out hg9 (hne9 HY8.out)); have HZ9 := Aside0.mk (blk_grown HX8.out.b2 hg9 (hne9 HX8.out.b2)); have hZB := blk_grown (blk_far HS.out.box (p := ⟨gi, 4, none⟩) (Ne.symm hzg) (.int .i64 4)) hg9 (fun e => Nat.lt_irrefl _ (HLT.out w7.heap.size e.symm)); have d0 := blk_cell (j := 0) (v := .int .i64 id) hZB rfl; have HB9 := Aside0.mk hb9; have y0 := blk_cell (j := 0) (v := .int .i64 (v + 1)) HY9.out rfl; have y1' := blk_cell (j := 1) (v := .slice Au ts.length cu) HY9.out rfl; have y2 := blk_cell (j := 2) (v := .int .i64 nx) HY9.out rfl; have yf := blk_frozen HY9.out 1; have yf2 := blk_frozen HY9.out 2; have f0 := blk_frozen HZ9.out 0; have f1 := blk_frozen HZ9.out 1; have f2 := blk_frozen HZ9.out 2; have c0 := blk_cell (j := 0) (v := .int .i64 0) HZ9.out rfl; have c1 := blk_cell (j := 1) (v := .slice none 0 0) HZ9.out rfl; have c2 := blk_cell (j := 2) (v := .int .i64 0) HZ9.out rfl; have hq3 : ¬ w1.heap.size = w.heap.size + 1 + 1 := (by omega); clear hr hb9 hg9 hat9 hne9 z0 z1 z2 z3 z4 y1 k4 kf hZB)
      refine bodyPost_ret (v := .tuple #[.agg #[.int .i64 (v + 1), .slice A9' (ts.length + 1) c9', .int .i64 (id + 1)], .int .i64 0]) (by simp [results, Tryd.results49, go_sem, c0, c1, c2, y0, y1', y2]) rfl ?_
      have hp1 := blk_put HY9.out 1 (.slice A9' (ts.length + 1) c9') rfl
      have r1 := Kd.R_set (Kd.R_set HR9.out HY9.out (by decide) 1 (.slice A9' (ts.length + 1) c9')) hp1 (by decide) 2 (.int .i64 (id + 1))
      have r2 := blk_far (blk_far HZ9.out (p := ⟨w1.heap.size, 1, none⟩) (show w.heap.size + 1 + 1 ≠ w1.heap.size by omega) (.slice A9' (ts.length + 1) c9')) (p := ⟨w1.heap.size, 2, none⟩) (show w.heap.size + 1 + 1 ≠ w1.heap.size by omega) (.int .i64 (id + 1))
      have hlw : w.heap.size ≤ w.heap.size + 1 + 1 := by omega
      have hlw7 : w.heap.size ≤ w1.heap.size := by omega
      exact tellse_ok (by rw [HR.out, HNC.out, HID.out]) (R_set3 r1 r2) (((((HB9.out.setCell (p := ⟨w1.heap.size, 1, none⟩) hlw7 _).setCell (p := ⟨w1.heap.size, 2, none⟩) hlw7 _).setCell (p := ⟨w.heap.size + 1 + 1, 0, none⟩) hlw _).setCell (p := ⟨w.heap.size + 1 + 1, 1, none⟩) hlw _).setCell (p := ⟨w.heap.size + 1 + 1, 2, none⟩) hlw _)
end Go.Proofs.YtjgomlcdmpcoaaaDoor.H
