/- Own texts of this session, packed by its program wip/pp/pack.py: lemmas and walks of functions. -/
import Derived.Test.YtjgomlcdmpcoaaaDoorKCC3
import Derived.Test.YtjgomlcdmpcoaaaDoorKCC11
import Derived.Test.YtjgomlcdmpcoaaaDoorKCC13
namespace Go.Proofs.YtjgomlcdmpcoaaaDoor.H
open Go.RowKit Go.Proofs.YtjgomlcdmpcoaaaDoorW.PrintWords Go.Proofs.YtjgomlcdmpcoaaaDoorW.PrintLast Go.Proofs.YtjgomlcdmpcoaaaDoorW.PrintMore
open Go.Proofs.YtjgomlcdmpcoaaaDoor.D Go.Proofs.YtjgomlcdmpcoaaaDoor
set_option linter.unusedVariables false
set_option linter.unusedSimpArgs false
set_option maxRecDepth 100000 in
set_option maxHeartbeats 16000000 in
theorem rmay_calls (v : Int) (ts : List S70) (nx : Int) (hw : ∀ t ∈ ts, ∀ c ∈ t.f2, ValWf c.f5) (A : Option Addr) (c : Nat) (w : World) (hc : ts.length ≤ c) (g2 : k70.C w A ts.length ts) :
    Calls Tryd.prog 37 #[.agg #[.int .i64 v, .slice A ts.length c, .int .i64 nx]] w fun e w' => e = .returned (.bool (schB v ts nx)) ∧ Below w.heap.size w w' := by
  have HC := Aside0.mk g2
  have HW := Aside0.mk hw
  have big2 := g2.2.1
  have hI : schB v ts nx = (decide (0 ≤ v) && (decide (v < 1099511627776) && (decide (0 ≤ nx) && (decide (nx < 1099511627776) && (decide (ts.length ≤ 4) && tabsB nx 0 [] ts))))) := rfl
  generalize schB v ts nx = R at hI ⊢
  have HS := Aside0.mk (show Below w.heap.size w (w.alloc (.cells #[.int .i64 v, .slice A ts.length c, .int .i64 nx] 28)) ∧ (w.alloc (.cells #[.int .i64 v, .slice A ts.length c, .int .i64 nx] 28)).heap[w.heap.size]? = some (.cells #[.int .i64 v, .slice A ts.length c, .int .i64 nx] 28 (0, 0)) from ⟨below_alloc (Below.refl _ _) _, heap_alloc_new w _⟩)
  clear g2 hw
  cases q1 : decide (0 ≤ v) with
  | false =>
    have e0 : decide (v < 0) = true := decide_eq_true (by have := of_decide_eq_false q1; omega)
    rw [q1] at hI
    have HI := Lib.hid hI
    clear hI q1
    go_enter Tryd.func37, Tryd.ntmps37
    go_wp2
    go_ret
    exact ⟨by rw [HI.out]; rfl, HS.out.1⟩
  | true =>
    rw [q1, Bool.true_and] at hI
    have z0 := of_decide_eq_true q1
    have e0 : decide (v < 0) = false := decide_eq_false (by omega)
    clear q1
    cases q2 : decide (v < 1099511627776) with
    | false =>
      have e1 : decide (1099511627776 ≤ v) = true := decide_eq_true (by have := of_decide_eq_false q2; omega)
      rw [q2] at hI
      have HI := Lib.hid hI
      clear hI q2
      go_enter Tryd.func37, Tryd.ntmps37
      go_wp2
      go_ret
      exact ⟨by rw [HI.out]; rfl, HS.out.1⟩
    | true =>
      rw [q2, Bool.true_and] at hI
      have z1 := of_decide_eq_true q2
      have e1 : decide (1099511627776 ≤ v) = false := decide_eq_false (by omega)
      clear q2
      cases q3 : decide (0 ≤ nx) with
      | false =>
        have e2 : decide (nx < 0) = true := decide_eq_true (by have := of_decide_eq_false q3; omega)
        rw [q3] at hI
        have HI := Lib.hid hI
        clear hI q3
        go_enter Tryd.func37, Tryd.ntmps37
        go_wp2
        go_ret
        exact ⟨by rw [HI.out]; rfl, HS.out.1⟩
      | true =>
        rw [q3, Bool.true_and] at hI
        have z2 := of_decide_eq_true q3
        have e2 : decide (nx < 0) = false := decide_eq_false (by omega)
        clear q3
        cases q4 : decide (nx < 1099511627776) with
        | false =>
          have e3 : decide (1099511627776 ≤ nx) = true := decide_eq_true (by have := of_decide_eq_false q4; omega)
          rw [q4] at hI
          have HI := Lib.hid hI
          clear hI q4
          go_enter Tryd.func37, Tryd.ntmps37
          go_wp2
          go_ret
          exact ⟨by rw [HI.out]; rfl, HS.out.1⟩
        | true =>
          rw [q4, Bool.true_and] at hI
          have z3 := of_decide_eq_true q4
          have e3 : decide (1099511627776 ≤ nx) = false := decide_eq_false (by omega)
          clear q4
          cases q5 : decide (ts.length ≤ 4) with
          | false =>
            have e4 : decide (4 < (ts.length : Int)) = true := decide_eq_true (by have := of_decide_eq_false q5; omega)
            rw [q5] at hI
            have HI := Lib.hid hI
            clear hI q5
            go_enter Tryd.func37, Tryd.ntmps37
            go_wp2
            go_ret
            exact ⟨by rw [HI.out]; rfl, HS.out.1⟩
          | true =>
            rw [q5, Bool.true_and] at hI
            have z4 := of_decide_eq_true q5
            have e4 : decide (4 < (ts.length : Int)) = false := decide_eq_false (by omega)
            clear q5
            have HI := Lib.hid hI
            clear hI
            go_enter Tryd.func37, Tryd.ntmps37
            go_wp2_with fail
            go_loopg [3, 4] ts.length (fun gg u3 u4 wr => ∃ (kk : Nat) (la : Int), kk ≤ ts.length ∧ ts.length - kk ≤ gg ∧ u3 = .int .i64 la ∧ u4 = .int .i64 kk ∧ Aside0 (Below w.heap.size w wr ∧ wr.heap[w.heap.size]? = some (.cells #[.int .i64 v, .slice A ts.length c, .int .i64 nx] 28 (0, 0))) ∧ Aside0 (tabsB nx 0 [] ts = tabsB nx la ((ts.map fun t => nm t.f1).take kk) (ts.drop kk)))
            case atStart => exact ⟨0, 0, Nat.zero_le _, by omega, rfl, rfl, HS, ⟨rfl⟩⟩
            case round =>
              obtain ⟨kk, la, hkk, hgg, rfl, rfl, HT, HCI⟩ := hrel
              clear HS
              have k1 := (pwC HT.out.2 1).trans (rfl : _ = some (Value.slice A ts.length c))
              by_cases hlt : kk < ts.length
              · have hltz : (kk : Int) < (ts.length : Int) := by omega
                have hk0 : (0 : Int) ≤ (kk : Int) := by omega
                have hnl : kk < (ts.map fun t => nm t.f1).length := by rw [List.length_map]; exact hlt
                have hd : ts.drop kk = ts[kk] :: ts.drop (kk + 1) := List.drop_eq_getElem_cons hlt
                have hst : tabsB nx 0 [] ts = (decide (la < ts[kk].f0) && (decide (ts[kk].f0 < nx) && (!((ts.map fun t => nm t.f1).take kk).contains (nm ts[kk].f1) && (tableB ts[kk] && tabsB nx ts[kk].f0 ((ts.map fun t => nm t.f1).take (kk + 1)) (ts.drop (kk + 1)))))) := by
                  rw [HCI.out, hd, tabsB, List.take_succ_eq_append_getElem hnl, List.getElem_map]
                obtain ⟨ad, A2, c2, A3, c3, eA, h0, h1, h2, h3, h4, hd2, hcols, hd3, hinds⟩ := at_T70 (Kd.C_below HC.out HT.out.1) (kk : Int) (by omega) (by omega)
                cases eA
                have hwt := HW.out _ (List.getElem_mem hlt)
                rw [rd70 _ _ hlt] at h0 h1 h2 h3 h4 hd2 hcols hd3 hinds
                simp only [Int.toNat_natCast] at h0 h1 h2 h3 h4
                obtain ⟨t, ht⟩ : ∃ t, ts[kk] = t := ⟨_, rfl⟩
                rw [ht] at hst hwt h0 h1 h2 h3 h4 hd2 hcols hd3 hinds
                have hb0 := below_alloc (Below.refl _ wr) (.cells #[.int .i64 t.f0, .string t.f1, .slice A2 t.f2.length c2, .slice A3 t.f3.length c3, .int .i64 t.f4] 70)
                have hBa := below_then HT.out.1 HT.out.1.size hb0
                have hxa := blk_below HT.out.2 hb0
                have hya := heap_alloc_new wr (.cells #[.int .i64 t.f0, .string t.f1, .slice A2 t.f2.length c2, .slice A3 t.f3.length c3, .int .i64 t.f4] 70)
                have HTL := Lib.hid (rtable_may t hwt A2 c2 A3 c3 (wr.alloc (.cells #[.int .i64 t.f0, .string t.f1, .slice A2 t.f2.length c2, .slice A3 t.f3.length c3, .int .i64 t.f4] 70)) hd2 (Kd.C_below hcols hb0) hd3 (Kd.C_below hinds hb0))
                generalize tableB t = tb at hst HTL
                have HBa := Aside0.mk hBa
                have HXa := Aside0.mk hxa
                have HYa := Aside0.mk hya
                have k2 := (pwC HT.out.2 2).trans (rfl : _ = some (Value.int .i64 nx))
                have hsz := HT.out.1.size
                have hlw : w.heap.size < wr.heap.size := lt_of_block HT.out.2
                have hlw2 : ¬ w.heap.size = wr.heap.size := by omega
                have hlw3 : ¬ wr.heap.size = w.heap.size := by omega
                clear HCI hd hnl hcols hinds hd2 hd3 hwt hb0 hBa hxa hya ht
                by_cases c1 : la < t.f0
                · rw [decide_eq_true c1, Bool.true_and] at hst
                  have b1 : decide (t.f0 ≤ la) = false := decide_eq_false (by omega)
                  by_cases c2' : t.f0 < nx
                  · rw [decide_eq_true c2', Bool.true_and] at hst
                    have b2 : decide (nx ≤ t.f0) = false := decide_eq_false (by omega)
                    clear c1 c2'
                    have HST := Lib.hid hst
                    clear hst
                    go_wp2_with fail
                    refine HTL.out.mono ?_
                    rintro e w2 ⟨rfl, hb2⟩
                    have HB2 := Aside0.mk (below_then HBa.out HBa.out.size hb2)
                    have HX2 := Aside0.mk (blk_below HXa.out hb2)
                    have HY2 := Aside0.mk (blk_below HYa.out hb2)
                    have y0 := (pwC HY2.out 0).trans (rfl : _ = some (Value.int .i64 t.f0))
                    clear h0 h1 h2 h3 h4 k1 k2 b1 b2 hb2 HTL HBa HXa HYa
                    cases tb with
                    | false =>
                      have HF := Lib.hid (show tabsB nx 0 [] ts = false by rw [HST.out]; simp)
                      go_wp2
                      go_ret
                      exact ⟨by rw [HI.out, HF.out] <;> rfl, HB2.out⟩
                    | true =>
                      rw [show ∀ a b : Bool, (a && (true && b)) = (a && b) from fun _ _ => rfl] at HST
                      go_wp2_with fail
                      go_loopg [6] kk (fun gg u6 wq => ∃ j : Nat, j ≤ kk ∧ kk - j ≤ gg ∧ u6 = .int .i64 j ∧ Aside0 (Below w.heap.size w wq ∧ wq.heap[w.heap.size]? = some (.cells #[.int .i64 v, .slice (some ad) ts.length c, .int .i64 nx] 28 (0, 0)) ∧ wq.heap[wr.heap.size]? = some (.cells #[.int .i64 t.f0, .string t.f1, .slice A2 t.f2.length c2, .slice A3 t.f3.length c3, .int .i64 t.f4] 70 (0, 0))) ∧ Aside0 (((ts.map fun t => nm t.f1).take j).contains (nm t.f1) = false))
                      case atStart => exact ⟨0, Nat.zero_le _, by omega, rfl, ⟨HB2.out, HX2.out, HY2.out⟩, ⟨rfl⟩⟩
                      case round =>
                        obtain ⟨j, hj, hgj, rfl, HT2, HNC⟩ := hrel
                        clear HB2 HX2 HY2 y0
                        by_cases hjl : j < kk
                        · have hjz : (j : Int) < (kk : Int) := by omega
                          have hjz2 : (j : Int) < (ts.length : Int) := by omega
                          have hj0 : (0 : Int) ≤ (j : Int) := by omega
                          have hnj : j < (ts.map fun t => nm t.f1).length := by rw [List.length_map]; omega
                          have hjL : j < ts.length := by omega
                          obtain ⟨ad_, _, _, _, _, eA, -, p1, -⟩ := at_T70 (Kd.C_below HC.out HT2.out.1) (j : Int) (by omega) (by omega)
                          cases eA
                          rw [rd70 _ _ hjL] at p1
                          simp only [Int.toNat_natCast] at p1
                          have hgj2 : (ts.map fun t => nm t.f1)[j] = nm ts[j].f1 := List.getElem_map ..
                          generalize ts[j].f1 = nj at p1 hgj2
                          have y1 := (pwC HT2.out.2.2 1).trans (rfl : _ = some (Value.string t.f1))
                          have x1 := (pwC HT2.out.2.1 1).trans (rfl : _ = some (Value.slice (some ad) ts.length c))
                          by_cases hq : nm nj = nm t.f1
                          · have HF := Lib.hid (show tabsB nx 0 [] ts = false by rw [HST.out, ct_yes hnj hjl (hgj2.trans hq)]; rfl)
                            have te : (nj.toList == t.f1.toList) = true := by rw [ByteArray.toList_eq, ByteArray.toList_eq]; exact beq_iff_eq.2 hq
                            clear hq hgj2 hnj
                            go_wp2_with fail
                            go_quiet (fail)
                            go_wp2
                            go_ret
                            exact ⟨by rw [HI.out, HF.out] <;> rfl, pw_below_drewN HT2.out.1 _⟩
                          · have HN2 := Aside0.mk (ct_no hnj HNC.out (by rw [hgj2]; exact hq))
                            have te : (nj.toList == t.f1.toList) = false := by rw [ByteArray.toList_eq, ByteArray.toList_eq]; exact beq_eq_false_iff_ne.2 hq
                            clear hq hgj2 hnj HNC
                            go_wp2_with fail
                            go_quiet (fail)
                            go_wp2
                            go_roundg (kk - (j + 1))
                            case measure => omega
                            case rel => exact ⟨j + 1, by omega, by omega, by go_num, ⟨pw_below_drewN HT2.out.1 _, HT2.out.2⟩, HN2⟩
                        · obtain rfl : j = kk := by omega
                          have HST2 := Lib.hid (show tabsB nx 0 [] ts = tabsB nx t.f0 ((ts.map fun t => nm t.f1).take (j + 1)) (ts.drop (j + 1)) by rw [HST.out, HNC.out]; rfl)
                          have hjj : ¬ (j : Int) < (j : Int) := by omega
                          go_wp2
                          go_roundg (ts.length - (j + 1))
                          case measure => omega
                          case rel => exact ⟨j + 1, t.f0, by omega, by omega, rfl, by go_num, ⟨HT2.out.1, HT2.out.2.1⟩, ⟨HST2.out⟩⟩
                  · have HF := Lib.hid (show tabsB nx 0 [] ts = false by rw [hst, decide_eq_false c2']; rfl)
                    have b2 : decide (nx ≤ t.f0) = true := decide_eq_true (by omega)
                    clear hst c1 c2'
                    go_wp2
                    go_ret
                    exact ⟨by rw [HI.out, HF.out] <;> rfl, HBa.out⟩
                · have HF := Lib.hid (show tabsB nx 0 [] ts = false by rw [hst, decide_eq_false c1]; rfl)
                  have b1 : decide (t.f0 ≤ la) = true := decide_eq_true (by omega)
                  clear hst c1
                  go_wp2
                  go_ret
                  exact ⟨by rw [HI.out, HF.out] <;> rfl, HBa.out⟩
              · have hltz : ¬ (kk : Int) < (ts.length : Int) := by omega
                have HF := Lib.hid (show tabsB nx 0 [] ts = true by rw [HCI.out, List.drop_eq_nil_of_le (by omega)]; rfl)
                go_wp2
                go_ret
                exact ⟨by rw [HI.out, HF.out] <;> rfl, HT.out.1⟩
end Go.Proofs.YtjgomlcdmpcoaaaDoor.H





namespace Go.Proofs.YtjgomlcdmpcoaaaDoor.D
open Go.RowKit Go.Proofs.YtjgomlcdmpcoaaaDoorW.PrintWords Go.Proofs.YtjgomlcdmpcoaaaDoorW.PrintLast Go.Proofs.YtjgomlcdmpcoaaaDoorW.PrintMore
attribute [local go_sem] max2_int min2_int max_two min_two max_three min_three max_four min_four
set_option linter.unusedVariables false
set_option linter.unusedSimpArgs false
def falseworkref18_Table.l0 : Nat → ByteArray → Int → Int → List (S70) → Int → Option (Int)
 | 0, _, _, _, _, _ => none
 | k + 1, x1, x5, x204000, x204001, x204002 => if x5 < (x204001.length : Int) then (if 0 ≤ x5 then (if ((rd_T70 x204001 x5).f1).toList = x1.toList then (some x5) else (falseworkref18_Table.l0 k x1 (wrap64 (x5 + 1)) x204000 x204001 x204002)) else (none)) else (some (-1))
def falseworkref18_Table.f (k : Nat) (a0_0 : Int) (l0_1 : List (S70)) (a0_2 : Int) (a1 : ByteArray) : Option (Int) := falseworkref18_Table.l0 k a1 0 a0_0 l0_1 a0_2
theorem falseworkref18_Table.mono_l : ∀ k, (∀ y0 y1 y2 y3 y4, LeO (falseworkref18_Table.l0 k y0 y1 y2 y3 y4) (falseworkref18_Table.l0 (k + 1) y0 y1 y2 y3 y4))
 | 0 => fun _ _ _ _ _ r h => by simp [falseworkref18_Table.l0] at h
 | k + 1 => by
  have ih0 := falseworkref18_Table.mono_l k
  ·intro y0 y1 y2 y3 y4
   unfold falseworkref18_Table.l0
   repeat' first
   | (with_reducible exact ih0 _ _ _ _ _)
   | (with_reducible exact LeO.refl _)
   | (with_reducible exact LeO.none _)
   | (with_reducible refine LeO.ite ?_ ?_)
   | (with_reducible refine LeO.bind ?_ (fun _ => ?_))
   | exact ih0 _ _ _ _ _
   | exact LeO.none _
   | refine LeO.ite ?_ ?_
   | refine LeO.bind ?_ (fun _ => ?_)
theorem falseworkref18_Table.mono : ∀ a0 a1 a2 a3 k, LeO (falseworkref18_Table.f k a0 a1 a2 a3) (falseworkref18_Table.f (k + 1) a0 a1 a2 a3) := by
 intro a0 a1 a2 a3 k
 have ih0 := falseworkref18_Table.mono_l k
 unfold falseworkref18_Table.f
 repeat' first
   | (with_reducible exact ih0 _ _ _ _ _)
   | (with_reducible exact LeO.refl _)
   | (with_reducible exact LeO.none _)
   | (with_reducible refine LeO.ite ?_ ?_)
   | (with_reducible refine LeO.bind ?_ (fun _ => ?_))
   | exact ih0 _ _ _ _ _
   | exact LeO.none _
   | refine LeO.ite ?_ ?_
   | refine LeO.bind ?_ (fun _ => ?_)
set_option maxHeartbeats 8000000 in
set_option maxRecDepth 100000 in
theorem falseworkref18_Table.calls (k : Nat) (a0_0 : Int) (A0_1 : Option Addr) (c0_1 : Nat) (l0_1 : List (S70)) (a0_2 : Int) (a1 : ByteArray) (r : Int) (w : World) (hr0_1 : Kd.C k70 w A0_1 l0_1.length l0_1) (hc0_1 : l0_1.length ≤ c0_1) (h : falseworkref18_Table.f k a0_0 l0_1 a0_2 a1 = some r) :
  Calls Tryd.prog 55 #[.agg #[.int .i64 a0_0, .slice A0_1 l0_1.length c0_1, .int .i64 a0_2], .string a1] w fun e w' => e = .returned (.int .i64 r) ∧ Below w.heap.size w w' := by
 have hu28 := Tryd.underlying28
 have HR0_1 := Aside0.mk hr0_1; have HC0_1 := Aside0.mk hc0_1; clear hr0_1 hc0_1; have HB := Aside0.mk (Below.refl w.heap.size w)
 have H : (falseworkref18_Table.l0 k a1 0 a0_0 l0_1 a0_2) = some r := h
 clear h; have H' := Aside0.mk H; clear H; go_enter Tryd.func55, Tryd.ntmps55
 go_wp2_with (first | ((with_reducible refine gate_dst (N := 2) rfl ?_); refine box_event ?hg (N := 2) ?hd (cs := #[.int .i64 a0_0, .slice A0_1 l0_1.length c0_1, .int .i64 a0_2]) (t := 28) ?hr ?_; (case hd => rfl); (case hg => rfl); (case hr => first | (go_simp; done) | (go_simp; rfl)); intro gb203 hg w3 hbox hb; have n0_ := Aside0.mk (below_step (by repeat (first | (with_reducible first | exact HB.out | apply below_alloc | apply pw_below_drewN | apply below_drew1) | exact HB.out)) hb); have n1_ := Aside0.mk (hbox); have n2_ := Aside0.mk ((by rw [hg]; exact (below_size (by repeat (first | (with_reducible first | exact HB.out | apply below_alloc | apply pw_below_drewN | apply below_drew1) | exact HB.out))) : w.heap.size ≤ gb203)); have n3_ := Aside0.mk ((by rw [hg]; exact (below_size (by repeat (first | (with_reducible first | exact HB.out | apply below_alloc | apply pw_below_drewN | apply below_drew1) | exact HB.out))) : w.heap.size ≤ gb203)); clear HB; have HB := n0_; have BK203 := n1_; have GW203 := n2_; have GE203 := n3_; clear n0_ n1_ n2_ n3_; clear hb hbox hg))
 go_loopg [5] k (fun kq v5 w' => ∃ (x5_1 : Int), v5 = .int .i64 x5_1 ∧ Aside0 (falseworkref18_Table.l0 kq a1 x5_1 a0_0 l0_1 a0_2 = some r) ∧ Aside0 (kq ≤ k) ∧ Aside0 (w'.heap[gb203]? = some (.cells #[.int .i64 a0_0, (.slice A0_1 l0_1.length c0_1), .int .i64 a0_2] 28 (0, 0))) ∧ Aside0 (Below w.heap.size w w'))
 case atStart => exact ⟨(0), (by first | rfl | (simp; done) | (simp [*]; done)), H', ⟨Nat.le_refl _⟩, ⟨by (with_reducible repeat (first | refine blk_drewN ?_ _ | refine blk_drew ?_ | refine blk_alloc ?_ _)); exact BK203.out⟩, ⟨by repeat (first | (with_reducible first | exact HB.out | apply below_alloc | apply pw_below_drewN | apply below_drew1 | refine below_set ?_ GE203.out) | exact HB.out)⟩⟩
 case round =>
  clear H'; (try clear p2); obtain ⟨x5_1, rfl, HA, HK1, BK203, HB⟩ := hrel
  cases gk with
  | zero => exact absurd HA.out (by simp [falseworkref18_Table.l0])
  | succ k1 =>
   have H := HA.out; clear HA; simp only [falseworkref18_Table.l0] at H
   by_cases c4 : x5_1 < (l0_1.length : Int)
   ·rw [if_pos c4] at H
    have c4b0 : decide (x5_1 < (l0_1.length : Int)) = true := decide_eq_true c4
    clear c4; by_cases c5 : 0 ≤ x5_1
    ·rw [if_pos c5] at H
     have c5b0 : decide (0 ≤ x5_1) = true := decide_eq_true c5
     clear c5; by_cases c6 : ((rd_T70 l0_1 x5_1).f1).toList = a1.toList
     ·rw [if_pos c6] at H
      have c6b0 : (((rd_T70 l0_1 x5_1).f1).toList == a1.toList) = true := beq_iff_eq.mpr c6
      have c6b1 : (((rd_T70 l0_1 x5_1).f1).toList != a1.toList) = false := bne_eq_false_iff_eq.mpr c6
      clear c6; obtain rfl := Option.some.inj H; have hcz7_0 : wr.cell? ⟨gb203, 0, none⟩ = some (.int .i64 a0_0) := (pwC BK203.out 0).trans rfl
      have hcz7_1 : wr.cell? ⟨gb203, 1, none⟩ = some (.slice A0_1 l0_1.length c0_1) := (pwC BK203.out 1).trans rfl
      have hcz7_2 : wr.cell? ⟨gb203, 2, none⟩ = some (.int .i64 a0_2) := (pwC BK203.out 2).trans rfl
      have hfz7_0 := blk_frozen BK203.out 0
      have hfz7_1 := blk_frozen BK203.out 1
      have hfz7_2 := blk_frozen BK203.out 2
      have p204 : 0 ≤ (x5_1 : Int) := of_decide_eq_true (by first | (with_reducible assumption) | assumption)
      have q204 : x5_1 < (l0_1.length : Int) := of_decide_eq_true (by first | (with_reducible assumption) | assumption)
      obtain ⟨ad204, A204_2, c204_2, A204_3, c204_3, e204, hx204_0, hx204_1, hx204_2, hx204_3, hx204_4, hl204_2, hi204_2, hl204_3, hi204_3⟩ := at_T70 HR0_1.out x5_1 p204 q204
      cases e204
      replace hx204_0 := (HB.out.cell (World.block_lt_of_cell? w _ hx204_0)).trans hx204_0
      replace hx204_1 := (HB.out.cell (World.block_lt_of_cell? w _ hx204_1)).trans hx204_1
      replace hx204_2 := (HB.out.cell (World.block_lt_of_cell? w _ hx204_2)).trans hx204_2
      replace hx204_3 := (HB.out.cell (World.block_lt_of_cell? w _ hx204_3)).trans hx204_3
      replace hx204_4 := (HB.out.cell (World.block_lt_of_cell? w _ hx204_4)).trans hx204_4
      have HR204_2 := Aside0.mk hi204_2; have HC204_2 := Aside0.mk hl204_2; clear hi204_2 hl204_2; have HR204_3 := Aside0.mk hi204_3; have HC204_3 := Aside0.mk hl204_3; clear hi204_3 hl204_3; replace p204 := eq_true p204
      replace q204 := eq_true q204
      go_wp2; go_ret; exact ⟨by first | rfl | (simp [errW_none, errW_some] <;> rfl) | (simp [*, errW_none, errW_some] <;> rfl), by repeat (first | (with_reducible first | exact HB.out | apply below_alloc | apply pw_below_drewN | apply below_drew1 | refine below_set ?_ GE203.out) | exact HB.out)⟩
     ·rw [if_neg c6] at H
      have c6b0 : (((rd_T70 l0_1 x5_1).f1).toList == a1.toList) = false := beq_eq_false_iff_ne.mpr c6
      have c6b1 : (((rd_T70 l0_1 x5_1).f1).toList != a1.toList) = true := bne_iff_ne.mpr c6
      have H' := Aside0.mk H; clear H; have hcz8_0 : wr.cell? ⟨gb203, 0, none⟩ = some (.int .i64 a0_0) := (pwC BK203.out 0).trans rfl
      have hcz8_1 : wr.cell? ⟨gb203, 1, none⟩ = some (.slice A0_1 l0_1.length c0_1) := (pwC BK203.out 1).trans rfl
      have hcz8_2 : wr.cell? ⟨gb203, 2, none⟩ = some (.int .i64 a0_2) := (pwC BK203.out 2).trans rfl
      have hfz8_0 := blk_frozen BK203.out 0
      have hfz8_1 := blk_frozen BK203.out 1
      have hfz8_2 := blk_frozen BK203.out 2
      have p204 : 0 ≤ (x5_1 : Int) := of_decide_eq_true (by first | (with_reducible assumption) | assumption)
      have q204 : x5_1 < (l0_1.length : Int) := of_decide_eq_true (by first | (with_reducible assumption) | assumption)
      obtain ⟨ad204, A204_2, c204_2, A204_3, c204_3, e204, hx204_0, hx204_1, hx204_2, hx204_3, hx204_4, hl204_2, hi204_2, hl204_3, hi204_3⟩ := at_T70 HR0_1.out x5_1 p204 q204
      cases e204
      replace hx204_0 := (HB.out.cell (World.block_lt_of_cell? w _ hx204_0)).trans hx204_0
      replace hx204_1 := (HB.out.cell (World.block_lt_of_cell? w _ hx204_1)).trans hx204_1
      replace hx204_2 := (HB.out.cell (World.block_lt_of_cell? w _ hx204_2)).trans hx204_2
      replace hx204_3 := (HB.out.cell (World.block_lt_of_cell? w _ hx204_3)).trans hx204_3
      replace hx204_4 := (HB.out.cell (World.block_lt_of_cell? w _ hx204_4)).trans hx204_4
      have HR204_2 := Aside0.mk hi204_2; have HC204_2 := Aside0.mk hl204_2; clear hi204_2 hl204_2; have HR204_3 := Aside0.mk hi204_3; have HC204_3 := Aside0.mk hl204_3; clear hi204_3 hl204_3; replace p204 := eq_true p204
      replace q204 := eq_true q204
      go_wp2; go_roundg k1
      case measure => have := HK1.out; omega
      case rel => exact ⟨(wrap64 (x5_1 + 1)), (by first | rfl | (simp; done) | (simp [*]; done)), H', ⟨by have := HK1.out; omega⟩, ⟨by (with_reducible repeat (first | refine blk_drewN ?_ _ | refine blk_drew ?_ | refine blk_alloc ?_ _)); exact BK203.out⟩, ⟨by repeat (first | (with_reducible first | exact HB.out | apply below_alloc | apply pw_below_drewN | apply below_drew1 | refine below_set ?_ GE203.out) | exact HB.out)⟩⟩
    ·rw [if_neg c5] at H
     exact absurd H (by simp)
   ·rw [if_neg c4] at H
    have c4b0 : decide (x5_1 < (l0_1.length : Int)) = false := decide_eq_false c4
    clear c4; obtain rfl := Option.some.inj H; have hcz9_0 : wr.cell? ⟨gb203, 0, none⟩ = some (.int .i64 a0_0) := (pwC BK203.out 0).trans rfl
    have hcz9_1 : wr.cell? ⟨gb203, 1, none⟩ = some (.slice A0_1 l0_1.length c0_1) := (pwC BK203.out 1).trans rfl
    have hcz9_2 : wr.cell? ⟨gb203, 2, none⟩ = some (.int .i64 a0_2) := (pwC BK203.out 2).trans rfl
    have hfz9_0 := blk_frozen BK203.out 0
    have hfz9_1 := blk_frozen BK203.out 1
    have hfz9_2 := blk_frozen BK203.out 2
    go_wp2; go_ret; exact ⟨by first | rfl | (simp [errW_none, errW_some] <;> rfl) | (simp [*, errW_none, errW_some] <;> rfl), by repeat (first | (with_reducible first | exact HB.out | apply below_alloc | apply pw_below_drewN | apply below_drew1 | refine below_set ?_ GE203.out) | exact HB.out)⟩
end Go.Proofs.YtjgomlcdmpcoaaaDoor.D
namespace Go.Proofs.YtjgomlcdmpcoaaaDoor.D
open Go.RowKit Go.Proofs.YtjgomlcdmpcoaaaDoorW.PrintWords Go.Proofs.YtjgomlcdmpcoaaaDoorW.PrintLast Go.Proofs.YtjgomlcdmpcoaaaDoorW.PrintMore
attribute [local go_sem] max2_int min2_int max_two min_two max_three min_three max_four min_four
set_option linter.unusedVariables false
set_option linter.unusedSimpArgs false
def falseworkref18_Shown.l0 : Nat → List (S75) → ByteArray → Int → Option (Int)
 | 0, _, _, _ => none
 | k + 1, x0, x1, x5 => if x5 < (x0.length : Int) then (if 0 ≤ x5 then (if ((rd_T75 x0 x5).f1).toList = x1.toList then (if ((rd_T75 x0 x5).f3) = 4 then (some x5) else (falseworkref18_Shown.l0 k x0 x1 (wrap64 (x5 + 1)))) else (falseworkref18_Shown.l0 k x0 x1 (wrap64 (x5 + 1)))) else (none)) else (some (-1))
def falseworkref18_Shown.f (k : Nat) (l0 : List (S75)) (a1 : ByteArray) : Option (Int) := falseworkref18_Shown.l0 k l0 a1 0
theorem falseworkref18_Shown.mono_l : ∀ k, (∀ y0 y1 y2, LeO (falseworkref18_Shown.l0 k y0 y1 y2) (falseworkref18_Shown.l0 (k + 1) y0 y1 y2))
 | 0 => fun _ _ _ r h => by simp [falseworkref18_Shown.l0] at h
 | k + 1 => by
  have ih0 := falseworkref18_Shown.mono_l k
  ·intro y0 y1 y2
   unfold falseworkref18_Shown.l0
   repeat' first
   | (with_reducible exact ih0 _ _ _)
   | (with_reducible exact LeO.refl _)
   | (with_reducible exact LeO.none _)
   | (with_reducible refine LeO.ite ?_ ?_)
   | (with_reducible refine LeO.bind ?_ (fun _ => ?_))
   | exact ih0 _ _ _
   | exact LeO.none _
   | refine LeO.ite ?_ ?_
   | refine LeO.bind ?_ (fun _ => ?_)
theorem falseworkref18_Shown.mono : ∀ a0 a1 k, LeO (falseworkref18_Shown.f k a0 a1) (falseworkref18_Shown.f (k + 1) a0 a1) := by
 intro a0 a1 k
 have ih0 := falseworkref18_Shown.mono_l k
 unfold falseworkref18_Shown.f
 repeat' first
   | (with_reducible exact ih0 _ _ _)
   | (with_reducible exact LeO.refl _)
   | (with_reducible exact LeO.none _)
   | (with_reducible refine LeO.ite ?_ ?_)
   | (with_reducible refine LeO.bind ?_ (fun _ => ?_))
   | exact ih0 _ _ _
   | exact LeO.none _
   | refine LeO.ite ?_ ?_
   | refine LeO.bind ?_ (fun _ => ?_)
set_option maxHeartbeats 8000000 in
set_option maxRecDepth 100000 in
theorem falseworkref18_Shown.calls (k : Nat) (A0 : Option Addr) (c0 : Nat) (l0 : List (S75)) (a1 : ByteArray) (r : Int) (w : World) (hr0 : Kd.C k75 w A0 l0.length l0) (hc0 : l0.length ≤ c0) (h : falseworkref18_Shown.f k l0 a1 = some r) :
  Calls Tryd.prog 117 #[.slice A0 l0.length c0, .string a1] w fun e w' => e = .returned (.int .i64 r) ∧ Drawn0 w w' := by
 have HR0 := Aside0.mk hr0; have HC0 := Aside0.mk hc0; clear hr0 hc0; have H : (falseworkref18_Shown.l0 k l0 a1 0) = some r := h
 clear h; have H' := Aside0.mk H; clear H; go_enter Tryd.func117, Tryd.ntmps117
 go_wp2; go_loopg [5] k (fun kq v5 w' => ∃ (x5_1 : Int), v5 = .int .i64 x5_1 ∧ Aside0 (falseworkref18_Shown.l0 kq l0 a1 x5_1 = some r) ∧ Aside0 (kq ≤ k) ∧ Drawn0 w w')
 case atStart => exact ⟨(0), (by first | rfl | (simp; done) | (simp [*]; done)), H', ⟨Nat.le_refl _⟩, by repeat (first | exact Drawn0.refl _ | apply Drawn0.step)⟩
 case round =>
  clear H'; (try clear c1); (try clear p2); obtain ⟨x5_1, rfl, HA, HK1, ⟨m1, rfl⟩⟩ := hrel
  cases gk with
  | zero => exact absurd HA.out (by simp [falseworkref18_Shown.l0])
  | succ k1 =>
   have H := HA.out; clear HA; simp only [falseworkref18_Shown.l0] at H
   by_cases c3 : x5_1 < (l0.length : Int)
   ·rw [if_pos c3] at H
    have c3b0 : decide (x5_1 < (l0.length : Int)) = true := decide_eq_true c3
    clear c3; by_cases c4 : 0 ≤ x5_1
    ·rw [if_pos c4] at H
     have c4b0 : decide (0 ≤ x5_1) = true := decide_eq_true c4
     clear c4; by_cases c5 : ((rd_T75 l0 x5_1).f1).toList = a1.toList
     ·rw [if_pos c5] at H
      have c5b0 : (((rd_T75 l0 x5_1).f1).toList == a1.toList) = true := beq_iff_eq.mpr c5
      have c5b1 : (((rd_T75 l0 x5_1).f1).toList != a1.toList) = false := bne_eq_false_iff_eq.mpr c5
      clear c5; by_cases c6 : ((rd_T75 l0 x5_1).f3) = 4
      ·rw [if_pos c6] at H
       have c6b0 : (((rd_T75 l0 x5_1).f3) == 4) = true := beq_iff_eq.mpr c6
       have c6b1 : (((rd_T75 l0 x5_1).f3) != 4) = false := bne_eq_false_iff_eq.mpr c6
       clear c6; obtain rfl := Option.some.inj H; have p237 : 0 ≤ (x5_1 : Int) := of_decide_eq_true (by first | (with_reducible assumption) | assumption)
       have q237 : x5_1 < (l0.length : Int) := of_decide_eq_true (by first | (with_reducible assumption) | assumption)
       obtain ⟨ad237, e237, hx237_0, hx237_1, hx237_2, hx237_3, hx237_4, hx237_5, hx237_6, hx237_7, hx237_8⟩ := at_T75 HR0.out x5_1 p237 q237
       cases e237
       replace p237 := eq_true p237
       replace q237 := eq_true q237
       have p238 : 0 ≤ (x5_1 : Int) := of_decide_eq_true (by first | (with_reducible assumption) | assumption)
       have q238 : x5_1 < (l0.length : Int) := of_decide_eq_true (by first | (with_reducible assumption) | assumption)
       obtain ⟨ad238, e238, hx238_0, hx238_1, hx238_2, hx238_3, hx238_4, hx238_5, hx238_6, hx238_7, hx238_8⟩ := at_T75 HR0.out x5_1 p238 q238
       obtain rfl : ad237 = ad238 := (by injection e238)
       replace p238 := eq_true p238
       replace q238 := eq_true q238
       go_wp2; go_ret; exact ⟨by first | rfl | (simp; done) | (simp [*]; done), by repeat (first | exact Drawn0.refl _ | apply Drawn0.step)⟩
      ·rw [if_neg c6] at H
       have c6b0 : (((rd_T75 l0 x5_1).f3) == 4) = false := beq_eq_false_iff_ne.mpr c6
       have c6b1 : (((rd_T75 l0 x5_1).f3) != 4) = true := bne_iff_ne.mpr c6
       have H' := Aside0.mk H; clear H; have p237 : 0 ≤ (x5_1 : Int) := of_decide_eq_true (by first | (with_reducible assumption) | assumption)
       have q237 : x5_1 < (l0.length : Int) := of_decide_eq_true (by first | (with_reducible assumption) | assumption)
       obtain ⟨ad237, e237, hx237_0, hx237_1, hx237_2, hx237_3, hx237_4, hx237_5, hx237_6, hx237_7, hx237_8⟩ := at_T75 HR0.out x5_1 p237 q237
       cases e237
       replace p237 := eq_true p237
       replace q237 := eq_true q237
       have p238 : 0 ≤ (x5_1 : Int) := of_decide_eq_true (by first | (with_reducible assumption) | assumption)
       have q238 : x5_1 < (l0.length : Int) := of_decide_eq_true (by first | (with_reducible assumption) | assumption)
       obtain ⟨ad238, e238, hx238_0, hx238_1, hx238_2, hx238_3, hx238_4, hx238_5, hx238_6, hx238_7, hx238_8⟩ := at_T75 HR0.out x5_1 p238 q238
       obtain rfl : ad237 = ad238 := (by injection e238)
       replace p238 := eq_true p238
       replace q238 := eq_true q238
       go_wp2; go_roundg k1
       case measure => have := HK1.out; omega
       case rel => exact ⟨(wrap64 (x5_1 + 1)), (by first | rfl | (simp; done) | (simp [*]; done)), H', ⟨by have := HK1.out; omega⟩, by repeat (first | exact Drawn0.refl _ | apply Drawn0.step)⟩
     ·rw [if_neg c5] at H
      have c5b0 : (((rd_T75 l0 x5_1).f1).toList == a1.toList) = false := beq_eq_false_iff_ne.mpr c5
      have c5b1 : (((rd_T75 l0 x5_1).f1).toList != a1.toList) = true := bne_iff_ne.mpr c5
      have H' := Aside0.mk H; clear H; have p237 : 0 ≤ (x5_1 : Int) := of_decide_eq_true (by first | (with_reducible assumption) | assumption)
      have q237 : x5_1 < (l0.length : Int) := of_decide_eq_true (by first | (with_reducible assumption) | assumption)
      obtain ⟨ad237, e237, hx237_0, hx237_1, hx237_2, hx237_3, hx237_4, hx237_5, hx237_6, hx237_7, hx237_8⟩ := at_T75 HR0.out x5_1 p237 q237
      cases e237
      replace p237 := eq_true p237
      replace q237 := eq_true q237
      go_wp2; go_roundg k1
      case measure => have := HK1.out; omega
      case rel => exact ⟨(wrap64 (x5_1 + 1)), (by first | rfl | (simp; done) | (simp [*]; done)), H', ⟨by have := HK1.out; omega⟩, by repeat (first | exact Drawn0.refl _ | apply Drawn0.step)⟩
    ·rw [if_neg c4] at H
     exact absurd H (by simp)
   ·rw [if_neg c3] at H
    have c3b0 : decide (x5_1 < (l0.length : Int)) = false := decide_eq_false c3
    clear c3; obtain rfl := Option.some.inj H; go_wp2; go_ret; exact ⟨by first | rfl | (simp; done) | (simp [*]; done), by repeat (first | exact Drawn0.refl _ | apply Drawn0.step)⟩
end Go.Proofs.YtjgomlcdmpcoaaaDoor.D
