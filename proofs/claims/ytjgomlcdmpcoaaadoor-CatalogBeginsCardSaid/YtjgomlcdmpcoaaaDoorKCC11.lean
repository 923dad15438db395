/- Own texts of this session, packed by its program wip/pp/pack.py: lemmas and walks of functions. -/
import Derived.ChangeArms
import Derived.OpenShut
import Derived.Test.YtjgomlcdmpcoaaaDoorKCC10
namespace Go.Proofs.YtjgomlcdmpcoaaaDoor.H
open Go.RowKit Go.Proofs.YtjgomlcdmpcoaaaDoorW.PrintWords Go.Proofs.YtjgomlcdmpcoaaaDoorW.PrintLast Go.Proofs.YtjgomlcdmpcoaaaDoorW.PrintMore
open Go.Proofs.YtjgomlcdmpcoaaaDoor.D Go.Proofs.YtjgomlcdmpcoaaaDoor
set_option linter.unusedVariables false
set_option linter.unusedSimpArgs false
def tabsB (nx : Int) : Int → List (List UInt8) → List S70 → Bool
  | _, _, [] => true
  | last, ns, t :: r => decide (last < t.f0) && (decide (t.f0 < nx) && (!ns.contains (nm t.f1) && (tableB t && tabsB nx t.f0 (ns ++ [nm t.f1]) r)))
def schB (v : Int) (ts : List S70) (nx : Int) : Bool := decide (0 ≤ v) && (decide (v < 1099511627776) && (decide (0 ≤ nx) && (decide (nx < 1099511627776) && (decide (ts.length ≤ 4) && tabsB nx 0 [] ts))))
structure MSt (w wr : World) (bx : Array Value) (ns : List (List UInt8)) : Prop where
  below : Below w.heap.size w wr
  box : wr.heap[w.heap.size]? = some (.cells bx 28 (0, 0))
  m : CntM 9 litS wr (w.heap.size + 1) ns.length ns
section
variable {w wr w' : World} {bx : Array Value} {ns ns' : List (List UInt8)}
theorem MSt.size (h : MSt w wr bx ns) : w.heap.size + 1 < wr.heap.size := h.m.lt
theorem MSt.step (h : MSt w wr bx ns) (hb : Below wr.heap.size wr w') : MSt w w' bx ns := ⟨below_then h.below h.below.size hb, blk_below h.box hb, h.m.below hb⟩
theorem MSt.up (h : MSt w wr bx ns) (hm : CntM 9 litS w' (w.heap.size + 1) ns'.length ns') (hg : wr.grownBy w' (some (w.heap.size + 1))) : MSt w w' bx ns' :=
  ⟨h.below.grown hg h.below.size (fun k e => by injection e with e; omega), (hg.block _ (lt_of_block h.box) (fun e => by injection e with e; omega)).trans h.box, hm⟩
theorem MSt.new (w : World) (bx : Array Value) : MSt w ((w.alloc (.cells bx 28)).alloc (.map #[] 0)) bx [] := by
  have a1 := below_alloc (Below.refl _ w) (.cells bx 28)
  have a2 := below_alloc (Below.refl _ (w.alloc (.cells bx 28))) (.map #[] 0)
  have s1 : (w.alloc (.cells bx 28)).heap.size = w.heap.size + 1 := by simp
  refine ⟨below_then a1 (by rw [s1]; omega) a2, blk_below (heap_alloc_new w _) a2, ?_⟩
  have := CntM.new 9 litS (w.alloc (.cells bx 28))
  rw [s1] at this
  exact this
end
set_option maxRecDepth 100000 in
set_option maxHeartbeats 16000000 in
theorem may_calls (v : Int) (ts : List S70) (nx : Int) (hwf : ∀ t ∈ ts, TabWf t) (A : Option Addr) (c : Nat) (w : World) (hG : GL w) (g2 : k70.C w A ts.length ts) :
    Calls Tryd.prog 36 #[.agg #[.int .i64 v, .slice A ts.length c, .int .i64 nx]] w fun e w' => e = .returned (.bool (schB v ts nx)) ∧ Below w.heap.size w w' := by
  have HG := Aside0.mk hG
  have HC := Aside0.mk g2
  have HW := Aside0.mk hwf
  have hmm := @run_makeMap Tryd.prog
  have big2 := g2.2.1
  have hI : schB v ts nx = (decide (0 ≤ v) && (decide (v < 1099511627776) && (decide (0 ≤ nx) && (decide (nx < 1099511627776) && (decide (ts.length ≤ 4) && tabsB nx 0 [] ts))))) := rfl
  generalize schB v ts nx = R at hI ⊢
  clear hG g2 hwf
  have E1 : decide (v < 0) = !decide (0 ≤ v) := by by_cases h : 0 ≤ v <;> simp [h] <;> omega
  have E2 : decide (1099511627776 ≤ v) = !decide (v < 1099511627776) := by by_cases h : v < 1099511627776 <;> simp [h] <;> omega
  have E3 : decide (nx < 0) = !decide (0 ≤ nx) := by by_cases h : 0 ≤ nx <;> simp [h] <;> omega
  have E4 : decide (1099511627776 ≤ nx) = !decide (nx < 1099511627776) := by by_cases h : nx < 1099511627776 <;> simp [h] <;> omega
  have E5 : decide (4 < (ts.length : Int)) = !decide (ts.length ≤ 4) := by by_cases h : ts.length ≤ 4 <;> simp [h] <;> omega
  cases q1 : decide (0 ≤ v) with
  | false =>
    rw [q1] at E1 hI
    simp only [Bool.not_false, Bool.not_true] at E1
    have HI := Lib.hid hI
    clear hI q1 E2 E3 E4 E5
    go_enter Tryd.func36, Tryd.ntmps36
    go_wp2
    go_ret
    exact ⟨by rw [HI.out]; rfl, below_alloc (Below.refl _ _) _⟩
  | true =>
    rw [q1] at E1 hI
    cases q2 : decide (v < 1099511627776) with
    | false =>
      rw [q2] at E2 hI
      simp only [Bool.not_false, Bool.not_true] at E1 E2
      have HI := Lib.hid hI
      clear hI q1 q2 E3 E4 E5
      go_enter Tryd.func36, Tryd.ntmps36
      go_wp2
      go_ret
      exact ⟨by rw [HI.out]; rfl, below_alloc (Below.refl _ _) _⟩
    | true =>
      rw [q2] at E2 hI
      cases q3 : decide (0 ≤ nx) with
      | false =>
        rw [q3] at E3 hI
        simp only [Bool.not_false, Bool.not_true] at E1 E2 E3
        have HI := Lib.hid hI
        clear hI q1 q2 q3 E4 E5
        go_enter Tryd.func36, Tryd.ntmps36
        go_wp2
        go_ret
        exact ⟨by rw [HI.out]; rfl, below_alloc (Below.refl _ _) _⟩
      | true =>
        rw [q3] at E3 hI
        cases q4 : decide (nx < 1099511627776) with
        | false =>
          rw [q4] at E4 hI
          simp only [Bool.not_false, Bool.not_true] at E1 E2 E3 E4
          have HI := Lib.hid hI
          clear hI q1 q2 q3 q4 E5
          go_enter Tryd.func36, Tryd.ntmps36
          go_wp2
          go_ret
          exact ⟨by rw [HI.out]; rfl, below_alloc (Below.refl _ _) _⟩
        | true =>
          rw [q4] at E4 hI
          cases q5 : decide (ts.length ≤ 4) with
          | false =>
            rw [q5] at E5 hI
            simp only [Bool.not_false, Bool.not_true] at E1 E2 E3 E4 E5
            have HI := Lib.hid hI
            clear hI q1 q2 q3 q4 q5
            go_enter Tryd.func36, Tryd.ntmps36
            go_wp2
            go_ret
            exact ⟨by rw [HI.out]; rfl, below_alloc (Below.refl _ _) _⟩
          | true =>
            rw [q5] at E5 hI
            simp only [Bool.not_false, Bool.not_true] at E1 E2 E3 E4 E5
            simp only [Bool.true_and] at hI
            have z5 := of_decide_eq_true q5
            clear q1 q2 q3 q4 q5
            have HI := Lib.hid hI
            have HT := Aside0.mk (MSt.new w #[.int .i64 v, .slice A ts.length c, .int .i64 nx])
            clear hI
            go_enter Tryd.func36, Tryd.ntmps36
            go_wp2_with fail
            clear E1 E2 E3 E4 E5
            go_loopg [3, 6, 35] ts.length (fun gg u3 _ u35 wr => ∃ kk : Nat, ∃ last : Int, kk ≤ ts.length ∧ ts.length - kk ≤ gg ∧ u3 = .int .i64 last ∧ u35 = .int .i64 kk ∧ Aside0 (MSt w wr #[.int .i64 v, .slice A ts.length c, .int .i64 nx] ((ts.take kk).map fun t => nm t.f1)) ∧ Aside0 (tabsB nx 0 [] ts = tabsB nx last ((ts.take kk).map fun t => nm t.f1) (ts.drop kk)))
            case atStart => exact ⟨0, 0, Nat.zero_le _, by omega, rfl, rfl, ⟨by first | exact HT.out | (simpa using HT.out)⟩, ⟨by simp⟩⟩
            case round =>
              obtain ⟨kk, last, hkk, hgg, rfl, rfl, HT', HCI'⟩ := hrel
              clear HT
              by_cases hlt : kk < ts.length
              · have hltz : (kk : Int) < (ts.length : Int) := by omega
                have hszr : w.heap.size + 1 < wr.heap.size := HT'.out.size
                have hBW := HT'.out.below
                obtain ⟨ad, A2, c2, A3, c3, eA, h0, h1, h2, h3, h4, hd2, hcols, hd3, hinds⟩ := at_T70 HC.out (kk : Int) (by omega) (by omega)
                have hx : rd_T70 ts (kk : Int) = ts[kk] := by unfold rd_T70; simp [List.getD, hlt]
                rw [hx] at h0 h1 h2 h3 h4 hd2 hcols hd3 hinds
                simp only [Int.toNat_natCast] at h0 h1 h2 h3 h4
                replace h0 := pw_cell_below hBW h0
                replace h1 := pw_cell_below hBW h1
                replace h2 := pw_cell_below hBW h2
                replace h3 := pw_cell_below hBW h3
                replace h4 := pw_cell_below hBW h4
                cases eA
                have hW := HW.out _ (List.getElem_mem hlt)
                have hd : ts.drop kk = ts[kk] :: ts.drop (kk + 1) := List.drop_eq_getElem_cons hlt
                have htk : ts.take (kk + 1) = ts.take kk ++ [ts[kk]] := List.take_succ_eq_append_getElem hlt
                rw [hd] at HCI'
                generalize ts[kk] = t at h0 h1 h2 h3 h4 hd2 hcols hd3 hinds hW hd htk HCI'
                have HWT := Lib.hid hW
                obtain ⟨nsC, hns⟩ : ∃ l_, ((ts.take kk).map fun t => nm t.f1) = l_ := ⟨_, rfl⟩
                have hTN := Lib.hid (show ((ts.take (kk + 1)).map fun t => nm t.f1) = nsC ++ [nm t.f1] by rw [htk, ← hns]; simp)
                rw [hns] at HT' HCI'
                have hnl : nsC.length < 50 := by rw [← hns]; simp; omega
                have hst : tabsB nx last nsC (t :: ts.drop (kk + 1)) = (decide (last < t.f0) && (decide (t.f0 < nx) && (!nsC.contains (nm t.f1) && (tableB t && tabsB nx t.f0 (nsC ++ [nm t.f1]) (ts.drop (kk + 1)))))) := rfl
                have HCI := Lib.hid (HCI'.out.trans hst)
                have HKS := Lib.hid (keyS hW.1)
                have HTB := Aside0.mk (HT'.out.step (below_alloc (Below.refl _ wr) (.cells #[.int .i64 t.f0, .string t.f1, .slice A2 t.f2.length c2, .slice A3 t.f3.length c3, .int .i64 t.f4] 70)))
                have HI2 := Aside0.mk hcols
                have HI3 := Aside0.mk hinds
                clear hx hW hd htk hns hst HCI' HT' hcols hinds hBW
                have F1 : decide (t.f0 ≤ last) = !decide (last < t.f0) := by by_cases h : last < t.f0 <;> simp [h] <;> omega
                have F2 : decide (nx ≤ t.f0) = !decide (t.f0 < nx) := by by_cases h : t.f0 < nx <;> simp [h] <;> omega
                cases ha : decide (last < t.f0) with
                | false =>
                  rw [ha] at F1
                  have HA := Lib.hid ha
                  clear ha F2
                  simp only [Bool.not_false] at F1
                  cases hq : nsC.contains (nm t.f1) with
                  | false =>
                    have e0 := count_none hq
                    have e1 : _ = (1 : Int) := count_one e0
                    have hrun := HTB.out.m.look0 lawS Tryd.underlying108 HKS.out e0
                    have E0 := Lib.hid e0
                    have E1 := Lib.hid e1
                    have HQ := Lib.hid hq
                    clear e0 e1 hq
                    go_wp2_with ((at_mapUpdate; refine wpList_count rfl _ _ _ 108 rfl lawS Tryd.underlying108 rfl HTB.out.m (by omega) (by omega) _ (nm t.f1) rfl HKS.out (injS _) (isS _) _ (by rw [E0.out] <;> rfl) rfl ?_; intro w2 hm2 hg2; have T2 := Aside0.mk (HTB.out.up hm2.snoc hg2); have B2_ := Aside0.mk ((hg2.block _ (by simp) (fun e => by injection e with e; have := hszr; omega)).trans (heap_alloc_new wr (.cells #[.int .i64 t.f0, .string t.f1, .slice A2 t.f2.length c2, .slice A3 t.f3.length c3, .int .i64 t.f4] 70))); have k0_ := (pwC B2_.out 0).trans (rfl : _ = some (Value.int .i64 t.f0)); have k1_ := (pwC B2_.out 1).trans (rfl : _ = some (Value.string t.f1)); have k2_ := (pwC B2_.out 2).trans (rfl : _ = some (Value.slice A2 t.f2.length c2)); have k3_ := (pwC B2_.out 3).trans (rfl : _ = some (Value.slice A3 t.f3.length c3)); have k4_ := (pwC B2_.out 4).trans (rfl : _ = some (Value.int .i64 t.f4)); have j2_ := (pwC T2.out.box 2).trans (rfl : _ = some (Value.int .i64 nx)); have hrun2 := T2.out.m.look0 lawS Tryd.underlying108 HKS.out E1.out; clear hrun hm2 hg2))
                    go_ret
                    exact ⟨by rw [HI.out, HCI.out, HA.out]; rfl, T2.out.below⟩
                  | true =>
                    obtain ⟨cq, e0, cq1, cq2'⟩ := count_some hq
                    have cq2 : cq ≤ 100 := by omega
                    have cq3 : 1 < cq + 1 := by omega
                    have e1 := count_one e0
                    clear cq2'
                    have hrun := HTB.out.m.look0 lawS Tryd.underlying108 HKS.out e0
                    have E0 := Lib.hid e0
                    have E1 := Lib.hid e1
                    have HQ := Lib.hid hq
                    clear e0 e1 hq
                    go_wp2_with ((at_mapUpdate; refine wpList_count rfl _ _ _ 108 rfl lawS Tryd.underlying108 rfl HTB.out.m (by omega) (by omega) _ (nm t.f1) rfl HKS.out (injS _) (isS _) _ (by rw [E0.out] <;> rfl) rfl ?_; intro w2 hm2 hg2; have T2 := Aside0.mk (HTB.out.up hm2.snoc hg2); have B2_ := Aside0.mk ((hg2.block _ (by simp) (fun e => by injection e with e; have := hszr; omega)).trans (heap_alloc_new wr (.cells #[.int .i64 t.f0, .string t.f1, .slice A2 t.f2.length c2, .slice A3 t.f3.length c3, .int .i64 t.f4] 70))); have k0_ := (pwC B2_.out 0).trans (rfl : _ = some (Value.int .i64 t.f0)); have k1_ := (pwC B2_.out 1).trans (rfl : _ = some (Value.string t.f1)); have k2_ := (pwC B2_.out 2).trans (rfl : _ = some (Value.slice A2 t.f2.length c2)); have k3_ := (pwC B2_.out 3).trans (rfl : _ = some (Value.slice A3 t.f3.length c3)); have k4_ := (pwC B2_.out 4).trans (rfl : _ = some (Value.int .i64 t.f4)); have j2_ := (pwC T2.out.box 2).trans (rfl : _ = some (Value.int .i64 nx)); have hrun2 := T2.out.m.look0 lawS Tryd.underlying108 HKS.out E1.out; clear hrun hm2 hg2))
                    go_ret
                    exact ⟨by rw [HI.out, HCI.out, HA.out]; rfl, T2.out.below⟩
                | true =>
                  rw [ha] at F1
                  have HA := Lib.hid ha
                  clear ha
                  simp only [Bool.not_true] at F1
                  cases hb : decide (t.f0 < nx) with
                  | false =>
                    rw [hb] at F2
                    have HBb := Lib.hid hb
                    clear hb
                    simp only [Bool.not_false] at F2
                    cases hq : nsC.contains (nm t.f1) with
                    | false =>
                      have e0 := count_none hq
                      have e1 : _ = (1 : Int) := count_one e0
                      have hrun := HTB.out.m.look0 lawS Tryd.underlying108 HKS.out e0
                      have E0 := Lib.hid e0
                      have E1 := Lib.hid e1
                      have HQ := Lib.hid hq
                      clear e0 e1 hq
                      go_wp2_with ((at_mapUpdate; refine wpList_count rfl _ _ _ 108 rfl lawS Tryd.underlying108 rfl HTB.out.m (by omega) (by omega) _ (nm t.f1) rfl HKS.out (injS _) (isS _) _ (by rw [E0.out] <;> rfl) rfl ?_; intro w2 hm2 hg2; have T2 := Aside0.mk (HTB.out.up hm2.snoc hg2); have B2_ := Aside0.mk ((hg2.block _ (by simp) (fun e => by injection e with e; have := hszr; omega)).trans (heap_alloc_new wr (.cells #[.int .i64 t.f0, .string t.f1, .slice A2 t.f2.length c2, .slice A3 t.f3.length c3, .int .i64 t.f4] 70))); have k0_ := (pwC B2_.out 0).trans (rfl : _ = some (Value.int .i64 t.f0)); have k1_ := (pwC B2_.out 1).trans (rfl : _ = some (Value.string t.f1)); have k2_ := (pwC B2_.out 2).trans (rfl : _ = some (Value.slice A2 t.f2.length c2)); have k3_ := (pwC B2_.out 3).trans (rfl : _ = some (Value.slice A3 t.f3.length c3)); have k4_ := (pwC B2_.out 4).trans (rfl : _ = some (Value.int .i64 t.f4)); have j2_ := (pwC T2.out.box 2).trans (rfl : _ = some (Value.int .i64 nx)); have hrun2 := T2.out.m.look0 lawS Tryd.underlying108 HKS.out E1.out; clear hrun hm2 hg2))
                      go_ret
                      exact ⟨by rw [HI.out, HCI.out, HA.out, HBb.out]; rfl, T2.out.below⟩
                    | true =>
                      obtain ⟨cq, e0, cq1, cq2'⟩ := count_some hq
                      have cq2 : cq ≤ 100 := by omega
                      have cq3 : 1 < cq + 1 := by omega
                      have e1 := count_one e0
                      clear cq2'
                      have hrun := HTB.out.m.look0 lawS Tryd.underlying108 HKS.out e0
                      have E0 := Lib.hid e0
                      have E1 := Lib.hid e1
                      have HQ := Lib.hid hq
                      clear e0 e1 hq
                      go_wp2_with ((at_mapUpdate; refine wpList_count rfl _ _ _ 108 rfl lawS Tryd.underlying108 rfl HTB.out.m (by omega) (by omega) _ (nm t.f1) rfl HKS.out (injS _) (isS _) _ (by rw [E0.out] <;> rfl) rfl ?_; intro w2 hm2 hg2; have T2 := Aside0.mk (HTB.out.up hm2.snoc hg2); have B2_ := Aside0.mk ((hg2.block _ (by simp) (fun e => by injection e with e; have := hszr; omega)).trans (heap_alloc_new wr (.cells #[.int .i64 t.f0, .string t.f1, .slice A2 t.f2.length c2, .slice A3 t.f3.length c3, .int .i64 t.f4] 70))); have k0_ := (pwC B2_.out 0).trans (rfl : _ = some (Value.int .i64 t.f0)); have k1_ := (pwC B2_.out 1).trans (rfl : _ = some (Value.string t.f1)); have k2_ := (pwC B2_.out 2).trans (rfl : _ = some (Value.slice A2 t.f2.length c2)); have k3_ := (pwC B2_.out 3).trans (rfl : _ = some (Value.slice A3 t.f3.length c3)); have k4_ := (pwC B2_.out 4).trans (rfl : _ = some (Value.int .i64 t.f4)); have j2_ := (pwC T2.out.box 2).trans (rfl : _ = some (Value.int .i64 nx)); have hrun2 := T2.out.m.look0 lawS Tryd.underlying108 HKS.out E1.out; clear hrun hm2 hg2))
                      go_ret
                      exact ⟨by rw [HI.out, HCI.out, HA.out, HBb.out]; rfl, T2.out.below⟩
                  | true =>
                    rw [hb] at F2
                    have HBb := Lib.hid hb
                    clear hb
                    simp only [Bool.not_true] at F2
                    cases hq : nsC.contains (nm t.f1) with
                    | true =>
                      obtain ⟨cq, e0, cq1, cq2'⟩ := count_some hq
                      have cq2 : cq ≤ 100 := by omega
                      have cq3 : 1 < cq + 1 := by omega
                      have e1 := count_one e0
                      clear cq2'
                      have hrun := HTB.out.m.look0 lawS Tryd.underlying108 HKS.out e0
                      have E0 := Lib.hid e0
                      have E1 := Lib.hid e1
                      have HQ := Lib.hid hq
                      clear e0 e1 hq
                      go_wp2_with ((at_mapUpdate; refine wpList_count rfl _ _ _ 108 rfl lawS Tryd.underlying108 rfl HTB.out.m (by omega) (by omega) _ (nm t.f1) rfl HKS.out (injS _) (isS _) _ (by rw [E0.out] <;> rfl) rfl ?_; intro w2 hm2 hg2; have T2 := Aside0.mk (HTB.out.up hm2.snoc hg2); have B2_ := Aside0.mk ((hg2.block _ (by simp) (fun e => by injection e with e; have := hszr; omega)).trans (heap_alloc_new wr (.cells #[.int .i64 t.f0, .string t.f1, .slice A2 t.f2.length c2, .slice A3 t.f3.length c3, .int .i64 t.f4] 70))); have k0_ := (pwC B2_.out 0).trans (rfl : _ = some (Value.int .i64 t.f0)); have k1_ := (pwC B2_.out 1).trans (rfl : _ = some (Value.string t.f1)); have k2_ := (pwC B2_.out 2).trans (rfl : _ = some (Value.slice A2 t.f2.length c2)); have k3_ := (pwC B2_.out 3).trans (rfl : _ = some (Value.slice A3 t.f3.length c3)); have k4_ := (pwC B2_.out 4).trans (rfl : _ = some (Value.int .i64 t.f4)); have j2_ := (pwC T2.out.box 2).trans (rfl : _ = some (Value.int .i64 nx)); have hrun2 := T2.out.m.look0 lawS Tryd.underlying108 HKS.out E1.out; clear hrun hm2 hg2))
                      go_ret
                      exact ⟨by rw [HI.out, HCI.out, HA.out, HBb.out, HQ.out]; rfl, T2.out.below⟩
                    | false =>
                      cases htb : tableB t with
                      | false =>
                        have e0 := count_none hq
                        have e1 : _ = (1 : Int) := count_one e0
                        have hrun := HTB.out.m.look0 lawS Tryd.underlying108 HKS.out e0
                        have E0 := Lib.hid e0
                        have E1 := Lib.hid e1
                        have HQ := Lib.hid hq
                        clear e0 e1 hq
                        have HB := Lib.hid htb
                        clear htb
                        go_wp2_with (first | (at_mapUpdate; refine wpList_count rfl _ _ _ 108 rfl lawS Tryd.underlying108 rfl HTB.out.m (by omega) (by omega) _ (nm t.f1) rfl HKS.out (injS _) (isS _) _ (by rw [E0.out] <;> rfl) rfl ?_; intro w2 hm2 hg2; have T2 := Aside0.mk (HTB.out.up hm2.snoc hg2); have B2_ := Aside0.mk ((hg2.block _ (by simp) (fun e => by injection e with e; have := hszr; omega)).trans (heap_alloc_new wr (.cells #[.int .i64 t.f0, .string t.f1, .slice A2 t.f2.length c2, .slice A3 t.f3.length c3, .int .i64 t.f4] 70))); have k0_ := (pwC B2_.out 0).trans (rfl : _ = some (Value.int .i64 t.f0)); have k1_ := (pwC B2_.out 1).trans (rfl : _ = some (Value.string t.f1)); have k2_ := (pwC B2_.out 2).trans (rfl : _ = some (Value.slice A2 t.f2.length c2)); have k3_ := (pwC B2_.out 3).trans (rfl : _ = some (Value.slice A3 t.f3.length c3)); have k4_ := (pwC B2_.out 4).trans (rfl : _ = some (Value.int .i64 t.f4)); have j2_ := (pwC T2.out.box 2).trans (rfl : _ = some (Value.int .i64 nx)); have hrun2 := T2.out.m.look0 lawS Tryd.underlying108 HKS.out E1.out; clear hrun hm2 hg2) | (go_at_call 74; refine (table_may t HWT.out A2 c2 A3 c3 w2 (HG.out.of_below T2.out.below) hd2 (Kd.C_below HI2.out T2.out.below) hd3 (Kd.C_below HI3.out T2.out.below)).mono ?_; rintro e w4 ⟨rfl, hb4⟩; rw [HB.out]; have T4 := Aside0.mk (T2.out.step hb4); have B4_ := Aside0.mk (blk_below B2_.out hb4); have k0__ := (pwC B4_.out 0).trans (rfl : _ = some (Value.int .i64 t.f0)); clear hb4))
                        go_ret
                        exact ⟨by rw [HI.out, HCI.out, HA.out, HBb.out, HQ.out, HB.out]; rfl, T4.out.below⟩
                      | true =>
                        have e0 := count_none hq
                        have e1 : _ = (1 : Int) := count_one e0
                        have hrun := HTB.out.m.look0 lawS Tryd.underlying108 HKS.out e0
                        have E0 := Lib.hid e0
                        have E1 := Lib.hid e1
                        have HQ := Lib.hid hq
                        clear e0 e1 hq
                        have HB := Lib.hid htb
                        clear htb
                        go_wp2_with (first | (at_mapUpdate; refine wpList_count rfl _ _ _ 108 rfl lawS Tryd.underlying108 rfl HTB.out.m (by omega) (by omega) _ (nm t.f1) rfl HKS.out (injS _) (isS _) _ (by rw [E0.out] <;> rfl) rfl ?_; intro w2 hm2 hg2; have T2 := Aside0.mk (HTB.out.up hm2.snoc hg2); have B2_ := Aside0.mk ((hg2.block _ (by simp) (fun e => by injection e with e; have := hszr; omega)).trans (heap_alloc_new wr (.cells #[.int .i64 t.f0, .string t.f1, .slice A2 t.f2.length c2, .slice A3 t.f3.length c3, .int .i64 t.f4] 70))); have k0_ := (pwC B2_.out 0).trans (rfl : _ = some (Value.int .i64 t.f0)); have k1_ := (pwC B2_.out 1).trans (rfl : _ = some (Value.string t.f1)); have k2_ := (pwC B2_.out 2).trans (rfl : _ = some (Value.slice A2 t.f2.length c2)); have k3_ := (pwC B2_.out 3).trans (rfl : _ = some (Value.slice A3 t.f3.length c3)); have k4_ := (pwC B2_.out 4).trans (rfl : _ = some (Value.int .i64 t.f4)); have j2_ := (pwC T2.out.box 2).trans (rfl : _ = some (Value.int .i64 nx)); have hrun2 := T2.out.m.look0 lawS Tryd.underlying108 HKS.out E1.out; clear hrun hm2 hg2) | (go_at_call 74; refine (table_may t HWT.out A2 c2 A3 c3 w2 (HG.out.of_below T2.out.below) hd2 (Kd.C_below HI2.out T2.out.below) hd3 (Kd.C_below HI3.out T2.out.below)).mono ?_; rintro e w4 ⟨rfl, hb4⟩; rw [HB.out]; have T4 := Aside0.mk (T2.out.step hb4); have B4_ := Aside0.mk (blk_below B2_.out hb4); have k0__ := (pwC B4_.out 0).trans (rfl : _ = some (Value.int .i64 t.f0)); clear hb4))
                        go_roundg (ts.length - (kk + 1))
                        case measure => omega
                        case rel =>
                          refine ⟨kk + 1, t.f0, by omega, by omega, rfl, by go_num, ⟨?_⟩, ⟨?_⟩⟩
                          · rw [hTN.out]; exact T4.out
                          · rw [HCI.out, HA.out, HBb.out, HQ.out, HB.out, hTN.out]; rfl
              · have hltz : ¬ (kk : Int) < (ts.length : Int) := by omega
                have hkd : ts.drop kk = [] := List.drop_eq_nil_of_le (by omega)
                rw [hkd] at HCI'
                have HC1 := Lib.hid (show tabsB nx 0 [] ts = true from HCI'.out)
                clear HCI' hkd
                go_wp2
                go_ret
                exact ⟨by rw [HI.out, HC1.out]; rfl, HT'.out.below⟩
end Go.Proofs.YtjgomlcdmpcoaaaDoor.H
namespace Go.Proofs.YtjgomlcdmpcoaaaDoor.H
open Go.RowKit Go.Proofs.YtjgomlcdmpcoaaaDoorW.PrintWords Go.Proofs.YtjgomlcdmpcoaaaDoorW.PrintLast Go.Proofs.YtjgomlcdmpcoaaaDoorW.PrintMore
open Go.Proofs.YtjgomlcdmpcoaaaDoor.D Go.Proofs.YtjgomlcdmpcoaaaDoor
set_option linter.unusedVariables false
def Opens {α : Type} (d : Kd α) (t : TypeId) (wf : α → Prop) : Prop :=
  ∀ (H : Type) (enc : TypeId × Value → H) (W : World) (base : Nat) (spare : Nat → Bool) (held : Bool) (fuel : Nat) (cs : List Value) (x : DataW H × List MemPlace),
    DataW.trod enc Tryd.prog W base spare held fuel t cs = some x → ∃ a, d.K W a cs ∧ wf a
theorem opens_int {t : TypeId} {k : IntKind} (ht : Tryd.prog.underlying t = some (.int k)) : Opens (Kd.int k) t (fun n => (Lit.int k n).wf = true) := by
  intro H enc W base spare held fuel cs x h
  obtain ⟨n, rfl, _, hw⟩ := DataW.trod_int ht h
  exact ⟨n, rfl, hw⟩
theorem opens_bool {t : TypeId} (ht : Tryd.prog.underlying t = some .bool) : Opens Kd.bool t (fun _ => True) := by
  intro H enc W base spare held fuel cs x h
  obtain ⟨n, rfl, _⟩ := DataW.trod_bool ht h
  exact ⟨n, rfl, trivial⟩
theorem opens_string {t : TypeId} (ht : Tryd.prog.underlying t = some .string) : Opens Kd.string t (fun s => s.size ≤ maxLen) := by
  intro H enc W base spare held fuel cs x h
  obtain ⟨n, rfl, _, hw⟩ := DataW.trod_string ht h
  exact ⟨n, rfl, hw⟩
theorem Opens.weak {α : Type} {d : Kd α} {t : TypeId} {wf wf' : α → Prop} (h : Opens d t wf) (hw : ∀ a, wf a → wf' a) : Opens d t wf' := by
  intro H enc W base spare held fuel cs x hx
  obtain ⟨a, h1, h2⟩ := h H enc W base spare held fuel cs x hx
  exact ⟨a, h1, hw a h2⟩
theorem rows_exist {α : Type} (P : Nat → α → Prop) : ∀ n, (∀ i, i < n → ∃ y, P i y) → ∃ xs : List α, xs.length = n ∧ ∀ i y, xs[i]? = some y → P i y
  | 0, _ => ⟨[], rfl, fun i y h => by simp at h⟩
  | n + 1, h => by
    obtain ⟨xs, hl, hx⟩ := rows_exist P n (fun i hi => h i (by omega))
    obtain ⟨y, hy⟩ := h n (by omega)
    refine ⟨xs ++ [y], by simp [hl], fun i z hz => ?_⟩
    by_cases hi : i < xs.length
    · rw [List.getElem?_append_left hi] at hz
      exact hx i z hz
    · have hlt := (List.getElem?_eq_some_iff.1 hz).1
      have e : i = n := by simp [hl] at hlt; omega
      subst e
      have : z = y := by rw [List.getElem?_append_right (by omega), hl] at hz; simpa using hz.symm
      rw [this]
      exact hy
theorem add_add (a : Addr) (m j : Nat) : (a.add m).add j = a.add (m + j) := by
  unfold Addr.add
  by_cases hm : m = 0
  · subst hm
    simp
  · by_cases hj : j = 0
    · subst hj
      simp [hm]
    · simp [hm, hj, Nat.add_assoc]
theorem opens_slice {α : Type} {d : Kd α} {t e : TypeId} {wf : α → Prop} (ht : Tryd.prog.underlying t = some (.slice e)) (he : Opens d e wf) (hs : Tryd.prog.cellsOf e = d.sz) : Opens (Kd.slice e d) t (fun xs => ∀ x ∈ xs, wf x) := by
  intro H enc W base spare held fuel cs x h
  rcases DataW.trod_slice ht h with ⟨rfl, _⟩ | ⟨a, len, cap, elems, rest, n, _, rfl, rfl, hb, hl, hm, hlen, hel, _, _⟩
  · exact ⟨[], ⟨none, 0, rfl, Nat.le_refl _, ⟨rfl, Nat.zero_le _, fun h => absurd h (by simp)⟩⟩, fun x hx => by cases hx⟩
  · obtain ⟨xs, hxl, hx⟩ := rows_exist (fun i (y : α) => (∃ c, c.length = d.sz ∧ d.K W y c ∧ ∀ j u, c[j]? = some u → W.cell? (a.add (i * d.sz + j)) = some u) ∧ wf y) len (fun i hi => by
      have h1 := hel i hi
      have h2 : elems[i]? = some elems[i] := List.getElem?_eq_getElem (by omega)
      rw [h2, Option.bind_eq_some_iff] at h1
      obtain ⟨c, hc, hy⟩ := h1
      obtain ⟨_, hcl, hcell⟩ := World.cells?_some hc
      obtain ⟨y, hK, hw⟩ := he H enc W base spare held n c _ hy
      refine ⟨y, ⟨c, by rw [hcl, hs], hK, fun j u hu => ?_⟩, hw⟩
      have hj : j < Tryd.prog.cellsOf e := by rw [← hcl]; exact (List.getElem?_eq_some_iff.1 hu).1
      have := hcell j hj
      rw [hu, add_add, hs] at this
      exact this)
    refine ⟨xs, ⟨some a, cap, by rw [hxl], by omega, ⟨rfl, by unfold maxLen at hm; omega, fun _ => ⟨a, rfl, fun j p hp => ?_⟩⟩⟩, fun y hy => ?_⟩
    · obtain ⟨⟨c, h1, h2, h3⟩, _⟩ := hx j p hp
      exact ⟨c, h1, h2, h3⟩
    · obtain ⟨i, hi, rfl⟩ := List.getElem_of_mem hy
      exact (hx i _ (List.getElem?_eq_getElem hi)).2
theorem struct_get {H : Type} {enc : TypeId × Value → H} {W : World} {base : Nat} {spare : Nat → Bool} {held : Bool} {fuel : Nat} {t : TypeId} {cs : List Value} {x : DataW H × List MemPlace} {fs : Array Field} (ht : Tryd.prog.underlying t = some (.struct fs))
    (h : DataW.trod enc Tryd.prog W base spare held fuel t cs = some x) : cs.length = Tryd.prog.cellsOf t ∧ ∀ (i ty off m : Nat), (fs[i]?).map (fun f => (f.type, f.offset)) = some (ty, off) → Tryd.prog.cellsOf ty = m →
      ∃ y n, DataW.trod enc Tryd.prog W base spare held n ty ((cs.drop off).take m) = some y := by
  obtain ⟨xs, n, _, _, hl, hxs, hf⟩ := DataW.trod_struct ht h
  refine ⟨hl, fun i ty off m hi hm => ?_⟩
  obtain ⟨f, hi, he⟩ := Option.map_eq_some_iff.1 hi
  have hlt : i < fs.size := by
    rcases Nat.lt_or_ge i fs.size with h | h
    · exact h
    · rw [Array.getElem?_eq_none h] at hi; cases hi
  have h1 := hf i f hi
  rw [List.getElem?_eq_getElem (by omega)] at h1
  injection he with e1 e2
  subst e1
  subst e2
  subst hm
  exact ⟨_, n, h1⟩
theorem cells73 : Tryd.prog.cellsOf 73 = 4 := by kernel_rfl
theorem cells75_ : Tryd.prog.cellsOf 75 = 9 := by kernel_rfl
theorem cells98 : Tryd.prog.cellsOf 98 = 5 := by kernel_rfl
theorem cells70 : Tryd.prog.cellsOf 70 = 5 := by kernel_rfl
theorem cells28 : Tryd.prog.cellsOf 28 = 3 := by kernel_rfl
theorem cells3 : Tryd.prog.cellsOf 3 = 1 := by kernel_rfl
theorem cells2 : Tryd.prog.cellsOf 2 = 1 := by kernel_rfl
theorem cells71 : Tryd.prog.cellsOf 71 = 1 := by kernel_rfl
theorem cells9 : Tryd.prog.cellsOf 9 = 1 := by kernel_rfl
theorem cells4 : Tryd.prog.cellsOf 4 = 1 := by kernel_rfl
theorem cells40 : Tryd.prog.cellsOf 40 = 1 := by kernel_rfl
theorem cells67 : Tryd.prog.cellsOf 67 = 1 := by kernel_rfl
theorem cells68 : Tryd.prog.cellsOf 68 = 1 := by kernel_rfl
theorem cells26 : Tryd.prog.cellsOf 26 = 1 := by kernel_rfl
theorem wf_i {n : Int} (h : (Lit.int .i64 n).wf = true) : -9223372036854775808 ≤ n ∧ n < 9223372036854775808 := by
  simp [Lit.wf, IntKind.min, IntKind.max, IntKind.signed, IntKind.bits] at h
  omega
theorem wf_u {n : Int} (h : (Lit.int .u64 n).wf = true) : 0 ≤ n ∧ n < 18446744073709551616 := by
  simp [Lit.wf, IntKind.min, IntKind.max, IntKind.signed, IntKind.bits] at h
  omega
set_option maxRecDepth 100000 in
theorem opens73 : Opens k73 73 ValWf := by
  intro H enc W base spare held fuel cs x h
  obtain ⟨hl, hf⟩ := struct_get Tryd.underlying73 h
  rw [cells73] at hl
  obtain ⟨c0, c1, c2, c3, rfl⟩ : ∃ c0 c1 c2 c3, cs = [c0, c1, c2, c3] := by
    match cs, hl with
    | [c0, c1, c2, c3], _ => exact ⟨c0, c1, c2, c3, rfl⟩
  obtain ⟨y0, n0, h0⟩ := hf 0 3 0 1 rfl cells3
  obtain ⟨x0, hx0, w0⟩ := (opens_int Tryd.underlying3) H enc W base spare held n0 [c0] y0 h0
  obtain ⟨y1, n1, h1⟩ := hf 1 2 1 1 rfl cells2
  obtain ⟨x1, hx1, w1⟩ := (opens_int Tryd.underlying2) H enc W base spare held n1 [c1] y1 h1
  obtain ⟨y2, n2, h2⟩ := hf 2 71 2 1 rfl cells71
  obtain ⟨x2, hx2, w2⟩ := (opens_int Tryd.underlying71) H enc W base spare held n2 [c2] y2 h2
  obtain ⟨y3, n3, h3⟩ := hf 3 9 3 1 rfl cells9
  obtain ⟨x3, hx3, w3⟩ := (opens_string Tryd.underlying9) H enc W base spare held n3 [c3] y3 h3
  injection hx0 with e0
  injection hx1 with e1
  injection hx2 with e2
  injection hx3 with e3
  subst e0 e1 e2 e3
  exact ⟨⟨x0, x1, x2, x3⟩, k73_mk W ⟨x0, x1, x2, x3⟩, wf_u w2⟩
set_option maxRecDepth 100000 in
theorem opens75 : Opens k75 75 ColWf := by
  intro H enc W base spare held fuel cs x h
  obtain ⟨hl, hf⟩ := struct_get Tryd.underlying75 h
  rw [cells75_] at hl
  obtain ⟨c0, c1, c2, c3, c4, c5, c6, c7, c8, rfl⟩ : ∃ c0 c1 c2 c3 c4 c5 c6 c7 c8, cs = [c0, c1, c2, c3, c4, c5, c6, c7, c8] := by
    match cs, hl with
    | [c0, c1, c2, c3, c4, c5, c6, c7, c8], _ => exact ⟨c0, c1, c2, c3, c4, c5, c6, c7, c8, rfl⟩
  obtain ⟨y0, n0, h0⟩ := hf 0 3 0 1 rfl cells3
  obtain ⟨x0, hx0, w0⟩ := (opens_int Tryd.underlying3) H enc W base spare held n0 [c0] y0 h0
  obtain ⟨y1, n1, h1⟩ := hf 1 9 1 1 rfl cells9
  obtain ⟨x1, hx1, w1⟩ := (opens_string Tryd.underlying9) H enc W base spare held n1 [c1] y1 h1
  obtain ⟨y2, n2, h2⟩ := hf 2 3 2 1 rfl cells3
  obtain ⟨x2, hx2, w2⟩ := (opens_int Tryd.underlying3) H enc W base spare held n2 [c2] y2 h2
  obtain ⟨y3, n3, h3⟩ := hf 3 3 3 1 rfl cells3
  obtain ⟨x3, hx3, w3⟩ := (opens_int Tryd.underlying3) H enc W base spare held n3 [c3] y3 h3
  obtain ⟨y4, n4, h4⟩ := hf 4 3 4 1 rfl cells3
  obtain ⟨x4, hx4, w4⟩ := (opens_int Tryd.underlying3) H enc W base spare held n4 [c4] y4 h4
  obtain ⟨y5, n5, h5⟩ := hf 5 73 5 4 rfl cells73
  obtain ⟨x5, hx5, w5⟩ := opens73 H enc W base spare held n5 [c5, c6, c7, c8] y5 h5
  injection hx0 with e0
  injection hx1 with e1
  injection hx2 with e2
  injection hx3 with e3
  injection hx4 with e4
  have e5 := k73_open hx5
  subst e0 e1 e2 e3 e4
  refine ⟨⟨x0, x1, x2, x3, x4, x5⟩, ?_, (wf_i w0).1, (wf_i w0).2, w1, w5⟩
  have := k75_mk W ⟨x0, x1, x2, x3, x4, x5⟩
  rw [e5]
  exact this
theorem opens40 : Opens (Kd.slice 3 (Kd.int .i64)) 40 (fun _ => True) := (opens_slice Tryd.underlying40 (opens_int Tryd.underlying3) cells3).weak (fun _ _ => trivial)
set_option maxRecDepth 100000 in
theorem opens98 : Opens k98 98 IndWf := by
  intro H enc W base spare held fuel cs x h
  obtain ⟨hl, hf⟩ := struct_get Tryd.underlying98 h
  rw [cells98] at hl
  obtain ⟨c0, c1, c2, c3, c4, rfl⟩ : ∃ c0 c1 c2 c3 c4, cs = [c0, c1, c2, c3, c4] := by
    match cs, hl with
    | [c0, c1, c2, c3, c4], _ => exact ⟨c0, c1, c2, c3, c4, rfl⟩
  obtain ⟨y0, n0, h0⟩ := hf 0 3 0 1 rfl cells3
  obtain ⟨x0, hx0, w0⟩ := (opens_int Tryd.underlying3) H enc W base spare held n0 [c0] y0 h0
  obtain ⟨y1, n1, h1⟩ := hf 1 9 1 1 rfl cells9
  obtain ⟨x1, hx1, w1⟩ := (opens_string Tryd.underlying9) H enc W base spare held n1 [c1] y1 h1
  obtain ⟨y2, n2, h2⟩ := hf 2 40 2 1 rfl cells40
  obtain ⟨x2, hx2, w2⟩ := opens40 H enc W base spare held n2 [c2] y2 h2
  obtain ⟨y3, n3, h3⟩ := hf 3 4 3 1 rfl cells4
  obtain ⟨x3, hx3, w3⟩ := (opens_bool Tryd.underlying4) H enc W base spare held n3 [c3] y3 h3
  obtain ⟨y4, n4, h4⟩ := hf 4 3 4 1 rfl cells3
  obtain ⟨x4, hx4, w4⟩ := (opens_int Tryd.underlying3) H enc W base spare held n4 [c4] y4 h4
  injection hx0 with e0
  injection hx1 with e1
  injection hx3 with e3
  injection hx4 with e4
  obtain ⟨A2, c2', e2, l2, g2⟩ := hx2
  injection e2 with e2
  subst e0 e1 e2 e3 e4
  exact ⟨⟨x0, x1, x2, x3, x4⟩, k98_mk W ⟨x0, x1, x2, x3, x4⟩ l2 g2, (wf_i w0).1, (wf_i w0).2, w1⟩
theorem opens67 : Opens (Kd.slice 75 k75) 67 (fun l => ∀ c ∈ l, ColWf c) := opens_slice Tryd.underlying67 opens75 cells75_
theorem opens68 : Opens (Kd.slice 98 k98) 68 (fun l => ∀ c ∈ l, IndWf c) := opens_slice Tryd.underlying68 opens98 cells98
set_option maxRecDepth 100000 in
theorem opens70 : Opens k70 70 TabWf := by
  intro H enc W base spare held fuel cs x h
  obtain ⟨hl, hf⟩ := struct_get Tryd.underlying70 h
  rw [cells70] at hl
  obtain ⟨c0, c1, c2, c3, c4, rfl⟩ : ∃ c0 c1 c2 c3 c4, cs = [c0, c1, c2, c3, c4] := by
    match cs, hl with
    | [c0, c1, c2, c3, c4], _ => exact ⟨c0, c1, c2, c3, c4, rfl⟩
  obtain ⟨y0, n0, h0⟩ := hf 0 3 0 1 rfl cells3
  obtain ⟨x0, hx0, w0⟩ := (opens_int Tryd.underlying3) H enc W base spare held n0 [c0] y0 h0
  obtain ⟨y1, n1, h1⟩ := hf 1 9 1 1 rfl cells9
  obtain ⟨x1, hx1, w1⟩ := (opens_string Tryd.underlying9) H enc W base spare held n1 [c1] y1 h1
  obtain ⟨y2, n2, h2⟩ := hf 2 67 2 1 rfl cells67
  obtain ⟨x2, hx2, w2⟩ := opens67 H enc W base spare held n2 [c2] y2 h2
  obtain ⟨y3, n3, h3⟩ := hf 3 68 3 1 rfl cells68
  obtain ⟨x3, hx3, w3⟩ := opens68 H enc W base spare held n3 [c3] y3 h3
  obtain ⟨y4, n4, h4⟩ := hf 4 3 4 1 rfl cells3
  obtain ⟨x4, hx4, w4⟩ := (opens_int Tryd.underlying3) H enc W base spare held n4 [c4] y4 h4
  injection hx0 with e0
  injection hx1 with e1
  injection hx4 with e4
  obtain ⟨A2, c2', e2, l2, g2⟩ := hx2
  injection e2 with e2
  obtain ⟨A3, c3', e3, l3, g3⟩ := hx3
  injection e3 with e3
  subst e0 e1 e2 e3 e4
  exact ⟨⟨x0, x1, x2, x3, x4⟩, k70_mk W ⟨x0, x1, x2, x3, x4⟩ l2 g2 l3 g3, w1, w2, w3⟩
theorem opens26 : Opens (Kd.slice 70 k70) 26 (fun l => ∀ t ∈ l, TabWf t) := opens_slice Tryd.underlying26 opens70 cells70
set_option maxRecDepth 100000 in
theorem open_schema {H : Type} {enc : TypeId × Value → H} {W : World} {base : Nat} {spare : Nat → Bool} {held : Bool} {fuel : Nat} {cs : List Value} {x : DataW H × List MemPlace} (h : DataW.trod enc Tryd.prog W base spare held fuel 28 cs = some x) :
    ∃ (v : Int) (ts : List S70) (nx : Int) (A : Option Addr) (c : Nat), cs = [.int .i64 v, .slice A ts.length c, .int .i64 nx] ∧ ts.length ≤ c ∧ k70.C W A ts.length ts ∧ (∀ t ∈ ts, TabWf t) ∧ (-9223372036854775808 ≤ v ∧ v < 9223372036854775808) ∧ (-9223372036854775808 ≤ nx ∧ nx < 9223372036854775808) := by
  obtain ⟨hl, hf⟩ := struct_get Tryd.underlying28 h
  rw [cells28] at hl
  obtain ⟨c0, c1, c2, rfl⟩ : ∃ c0 c1 c2, cs = [c0, c1, c2] := by
    match cs, hl with
    | [a, b, c], _ => exact ⟨a, b, c, rfl⟩
  obtain ⟨y0, n0, h0⟩ := hf 0 3 0 1 rfl cells3
  obtain ⟨x0, hx0, w0⟩ := (opens_int Tryd.underlying3) H enc W base spare held n0 [c0] y0 h0
  obtain ⟨y1, n1, h1⟩ := hf 1 26 1 1 rfl cells26
  obtain ⟨x1, hx1, w1⟩ := opens26 H enc W base spare held n1 [c1] y1 h1
  obtain ⟨y2, n2, h2⟩ := hf 2 3 2 1 rfl cells3
  obtain ⟨x2, hx2, w2⟩ := (opens_int Tryd.underlying3) H enc W base spare held n2 [c2] y2 h2
  injection hx0 with e0
  injection hx2 with e2
  obtain ⟨A, c, e1, l1, g1⟩ := hx1
  injection e1 with e1
  subst e0 e1 e2
  exact ⟨x0, x1, x2, A, c, rfl, l1, g1, w1, wf_i w0, wf_i w2⟩
end Go.Proofs.YtjgomlcdmpcoaaaDoor.H
