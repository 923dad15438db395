/- Own texts of this session, packed by its program wip/pp/pack.py: lemmas and walks of functions. -/
import Derived.ChangeArms
import Derived.OpenShut
import Derived.Lib.Hide
import Derived.OneCell
import Derived.Deep.RegionHeld3
import Derived.Deep.AppendLies
import Derived.Outline
import Derived.IntWalk
import Derived.Deep.RegionLaw
import Derived.Lib.AppendStr
import Derived.Laws.BitsAllLaws
import Derived.Test.YtjgomlcdmpcoaaaDoorKTurned1
import Derived.Test.YtjgomlcdmpcoaaaDoorKTurned5
namespace Go.Proofs.YtjgomlcdmpcoaaaDoor.H
open Go.RowKit Go.Proofs.YtjgomlcdmpcoaaaDoorW.PrintWords Go.Proofs.YtjgomlcdmpcoaaaDoorW.PrintLast Go.Proofs.YtjgomlcdmpcoaaaDoorW.PrintMore
open Go.Proofs.YtjgomlcdmpcoaaaDoor.D Go.Proofs.YtjgomlcdmpcoaaaDoor
set_option linter.unusedVariables false
set_option linter.unusedSimpArgs false
def tabsB (nx : Int) : Int → List (List UInt8) → List S70 → Bool
  | _, _, [] => true
  | last, ns, t :: r => decide (last < t.f0) && (decide (t.f0 < nx) && (!ns.contains (nm t.f1) && (tableB t && tabsB nx t.f0 (ns ++ [nm t.f1]) r)))
def schB (v : Int) (ts : List S70) (nx : Int) : Bool := decide (0 ≤ v) && (decide (v < 1099511627776) && (decide (0 ≤ nx) && (decide (nx < 1099511627776) && (decide (ts.length ≤ 4) && tabsB nx 0 [] ts))))
structure MSt (w wr : World) (bx : Array Value) (ns : List (List UInt8)) : Prop where
  below : Below w.heap.size w wr
  box : wr.heap[w.heap.size]? = some (.cells bx 28 (0, 0))
  m : CntM 9 litS wr (w.heap.size + 1) ns.length ns
section
variable {w wr w' : World} {bx : Array Value} {ns ns' : List (List UInt8)}
theorem MSt.size (h : MSt w wr bx ns) : w.heap.size + 1 < wr.heap.size := h.m.lt
theorem MSt.step (h : MSt w wr bx ns) (hb : Below wr.heap.size wr w') : MSt w w' bx ns := ⟨below_then h.below h.below.size hb, blk_below h.box hb, h.m.below hb⟩
theorem MSt.up (h : MSt w wr bx ns) (hm : CntM 9 litS w' (w.heap.size + 1) ns'.length ns') (hg : wr.grownBy w' (some (w.heap.size + 1))) : MSt w w' bx ns' :=
  ⟨h.below.grown hg h.below.size (fun k e => by injection e with e; omega), (hg.block _ (lt_of_block h.box) (fun e => by injection e with e; omega)).trans h.box, hm⟩
theorem MSt.new (w : World) (bx : Array Value) : MSt w ((w.alloc (.cells bx 28)).alloc (.map #[] 0)) bx [] := by
  have a1 := below_alloc (Below.refl _ w) (.cells bx 28)
  have a2 := below_alloc (Below.refl _ (w.alloc (.cells bx 28))) (.map #[] 0)
  have s1 : (w.alloc (.cells bx 28)).heap.size = w.heap.size + 1 := by simp
  refine ⟨below_then a1 (by rw [s1]; omega) a2, blk_below (heap_alloc_new w _) a2, ?_⟩
  have := CntM.new 9 litS (w.alloc (.cells bx 28))
  rw [s1] at this
  exact this
end
set_option maxRecDepth 100000 in
set_option maxHeartbeats 16000000 in
theorem may_calls (v : Int) (ts : List S70) (nx : Int) (hwf : ∀ t ∈ ts, TabWf t) (A : Option Addr) (c : Nat) (w : World) (hG : GL w) (g2 : k70.C w A ts.length ts) :
    Calls Tryd.prog 36 #[.agg #[.int .i64 v, .slice A ts.length c, .int .i64 nx]] w fun e w' => e = .returned (.bool (schB v ts nx)) ∧ Below w.heap.size w w' := by
  have HG := Aside0.mk hG
  have HC := Aside0.mk g2
  have HW := Aside0.mk hwf
  have hmm := @run_makeMap Tryd.prog
  have big2 := g2.2.1
  have hI : schB v ts nx = (decide (0 ≤ v) && (decide (v < 1099511627776) && (decide (0 ≤ nx) && (decide (nx < 1099511627776) && (decide (ts.length ≤ 4) && tabsB nx 0 [] ts))))) := rfl
  generalize schB v ts nx = R at hI ⊢
  clear hG g2 hwf
  have E1 : decide (v < 0) = !decide (0 ≤ v) := by by_cases h : 0 ≤ v <;> simp [h] <;> omega
  have E2 : decide (1099511627776 ≤ v) = !decide (v < 1099511627776) := by by_cases h : v < 1099511627776 <;> simp [h] <;> omega
  have E3 : decide (nx < 0) = !decide (0 ≤ nx) := by by_cases h : 0 ≤ nx <;> simp [h] <;> omega
  have E4 : decide (1099511627776 ≤ nx) = !decide (nx < 1099511627776) := by by_cases h : nx < 1099511627776 <;> simp [h] <;> omega
  have E5 : decide (4 < (ts.length : Int)) = !decide (ts.length ≤ 4) := by by_cases h : ts.length ≤ 4 <;> simp [h] <;> omega
  cases q1 : decide (0 ≤ v) with
  | false =>
    rw [q1] at E1 hI
    simp only [Bool.not_false, Bool.not_true] at E1
    have HI := Lib.hid hI
    clear hI q1 E2 E3 E4 E5
    go_enter Tryd.func36, Tryd.ntmps36
    go_wp2
    go_ret
    exact ⟨by rw [HI.out]; rfl, below_alloc (Below.refl _ _) _⟩
  | true =>
    rw [q1] at E1 hI
    cases q2 : decide (v < 1099511627776) with
    | false =>
      rw [q2] at E2 hI
      simp only [Bool.not_false, Bool.not_true] at E1 E2
      have HI := Lib.hid hI
      clear hI q1 q2 E3 E4 E5
      go_enter Tryd.func36, Tryd.ntmps36
      go_wp2
      go_ret
      exact ⟨by rw [HI.out]; rfl, below_alloc (Below.refl _ _) _⟩
    | true =>
      rw [q2] at E2 hI
      cases q3 : decide (0 ≤ nx) with
      | false =>
        rw [q3] at E3 hI
        simp only [Bool.not_false, Bool.not_true] at E1 E2 E3
        have HI := Lib.hid hI
        clear hI q1 q2 q3 E4 E5
        go_enter Tryd.func36, Tryd.ntmps36
        go_wp2
        go_ret
        exact ⟨by rw [HI.out]; rfl, below_alloc (Below.refl _ _) _⟩
      | true =>
        rw [q3] at E3 hI
        cases q4 : decide (nx < 1099511627776) with
        | false =>
          rw [q4] at E4 hI
          simp only [Bool.not_false, Bool.not_true] at E1 E2 E3 E4
          have HI := Lib.hid hI
          clear hI q1 q2 q3 q4 E5
          go_enter Tryd.func36, Tryd.ntmps36
          go_wp2
          go_ret
          exact ⟨by rw [HI.out]; rfl, below_alloc (Below.refl _ _) _⟩
        | true =>
          rw [q4] at E4 hI
          cases q5 : decide (ts.length ≤ 4) with
          | false =>
            rw [q5] at E5 hI
            simp only [Bool.not_false, Bool.not_true] at E1 E2 E3 E4 E5
            have HI := Lib.hid hI
            clear hI q1 q2 q3 q4 q5
            go_enter Tryd.func36, Tryd.ntmps36
            go_wp2
            go_ret
            exact ⟨by rw [HI.out]; rfl, below_alloc (Below.refl _ _) _⟩
          | true =>
            rw [q5] at E5 hI
            simp only [Bool.not_false, Bool.not_true] at E1 E2 E3 E4 E5
            simp only [Bool.true_and] at hI
            have z5 := of_decide_eq_true q5
            clear q1 q2 q3 q4 q5
            have HI := Lib.hid hI
            have HT := Aside0.mk (MSt.new w #[.int .i64 v, .slice A ts.length c, .int .i64 nx])
            clear hI
            go_enter Tryd.func36, Tryd.ntmps36
            go_wp2_with fail
            clear E1 E2 E3 E4 E5
            go_loopg [3, 6, 35] ts.length (fun gg u3 _ u35 wr => ∃ kk : Nat, ∃ last : Int, kk ≤ ts.length ∧ ts.length - kk ≤ gg ∧ u3 = .int .i64 last ∧ u35 = .int .i64 kk ∧ Aside0 (MSt w wr #[.int .i64 v, .slice A ts.length c, .int .i64 nx] ((ts.take kk).map fun t => nm t.f1)) ∧ Aside0 (tabsB nx 0 [] ts = tabsB nx last ((ts.take kk).map fun t => nm t.f1) (ts.drop kk)))
            case atStart => exact ⟨0, 0, Nat.zero_le _, by omega, rfl, rfl, ⟨by first | exact HT.out | (simpa using HT.out)⟩, ⟨by simp⟩⟩
            case round =>
              obtain ⟨kk, last, hkk, hgg, rfl, rfl, HT', HCI'⟩ := hrel
              clear HT
              by_cases hlt : kk < ts.length
              · have hltz : (kk : Int) < (ts.length : Int) := by omega
                have hszr : w.heap.size + 1 < wr.heap.size := HT'.out.size
                have hBW := HT'.out.below
                obtain ⟨ad, A2, c2, A3, c3, eA, h0, h1, h2, h3, h4, hd2, hcols, hd3, hinds⟩ := at_T70 HC.out (kk : Int) (by omega) (by omega)
                have hx : rd_T70 ts (kk : Int) = ts[kk] := by unfold rd_T70; simp [List.getD, hlt]
                rw [hx] at h0 h1 h2 h3 h4 hd2 hcols hd3 hinds
                simp only [Int.toNat_natCast] at h0 h1 h2 h3 h4
                replace h0 := pw_cell_below hBW h0
                replace h1 := pw_cell_below hBW h1
                replace h2 := pw_cell_below hBW h2
                replace h3 := pw_cell_below hBW h3
                replace h4 := pw_cell_below hBW h4
                cases eA
                have hW := HW.out _ (List.getElem_mem hlt)
                have hd : ts.drop kk = ts[kk] :: ts.drop (kk + 1) := List.drop_eq_getElem_cons hlt
                have htk : ts.take (kk + 1) = ts.take kk ++ [ts[kk]] := List.take_succ_eq_append_getElem hlt
                rw [hd] at HCI'
                generalize ts[kk] = t at h0 h1 h2 h3 h4 hd2 hcols hd3 hinds hW hd htk HCI'
                have HWT := Lib.hid hW
                obtain ⟨nsC, hns⟩ : ∃ l_, ((ts.take kk).map fun t => nm t.f1) = l_ := ⟨_, rfl⟩
                have hTN := Lib.hid (show ((ts.take (kk + 1)).map fun t => nm t.f1) = nsC ++ [nm t.f1] by rw [htk, ← hns]; simp)
                rw [hns] at HT' HCI'
                have hnl : nsC.length < 50 := by rw [← hns]; simp; omega
                have hst : tabsB nx last nsC (t :: ts.drop (kk + 1)) = (decide (last < t.f0) && (decide (t.f0 < nx) && (!nsC.contains (nm t.f1) && (tableB t && tabsB nx t.f0 (nsC ++ [nm t.f1]) (ts.drop (kk + 1)))))) := rfl
                have HCI := Lib.hid (HCI'.out.trans hst)
                have HKS := Lib.hid (keyS hW.1)
                have HTB := Aside0.mk (HT'.out.step (below_alloc (Below.refl _ wr) (.cells #[.int .i64 t.f0, .string t.f1, .slice A2 t.f2.length c2, .slice A3 t.f3.length c3, .int .i64 t.f4] 70)))
                have HI2 := Aside0.mk hcols
                have HI3 := Aside0.mk hinds
                clear hx hW hd htk hns hst HCI' HT' hcols hinds hBW
                have F1 : decide (t.f0 ≤ last) = !decide (last < t.f0) := by by_cases h : last < t.f0 <;> simp [h] <;> omega
                have F2 : decide (nx ≤ t.f0) = !decide (t.f0 < nx) := by by_cases h : t.f0 < nx <;> simp [h] <;> omega
                cases ha : decide (last < t.f0) with
                | false =>
                  rw [ha] at F1
                  have HA := Lib.hid ha
                  clear ha F2
                  simp only [Bool.not_false] at F1
                  cases hq : nsC.contains (nm t.f1) with
                  | false =>
                    have e0 := count_none hq
                    have e1 : _ = (1 : Int) := count_one e0
                    have hrun := HTB.out.m.look0 lawS Tryd.underlying108 HKS.out e0
                    have E0 := Lib.hid e0
                    have E1 := Lib.hid e1
                    have HQ := Lib.hid hq
                    clear e0 e1 hq
                    go_wp2_with ((at_mapUpdate; refine wpList_count rfl _ _ _ 108 rfl lawS Tryd.underlying108 rfl HTB.out.m (by omega) (by omega) _ (nm t.f1) rfl HKS.out (injS _) (isS _) _ (by rw [E0.out] <;> rfl) rfl ?_; intro w2 hm2 hg2; have T2 := Aside0.mk (HTB.out.up hm2.snoc hg2); have B2_ := Aside0.mk ((hg2.block _ (by simp) (fun e => by injection e with e; have := hszr; omega)).trans (heap_alloc_new wr (.cells #[.int .i64 t.f0, .string t.f1, .slice A2 t.f2.length c2, .slice A3 t.f3.length c3, .int .i64 t.f4] 70))); have k0_ := (blk_cell B2_.out 0).trans (rfl : _ = some (Value.int .i64 t.f0)); have k1_ := (blk_cell B2_.out 1).trans (rfl : _ = some (Value.string t.f1)); have k2_ := (blk_cell B2_.out 2).trans (rfl : _ = some (Value.slice A2 t.f2.length c2)); have k3_ := (blk_cell B2_.out 3).trans (rfl : _ = some (Value.slice A3 t.f3.length c3)); have k4_ := (blk_cell B2_.out 4).trans (rfl : _ = some (Value.int .i64 t.f4)); have j2_ := (blk_cell T2.out.box 2).trans (rfl : _ = some (Value.int .i64 nx)); have hrun2 := T2.out.m.look0 lawS Tryd.underlying108 HKS.out E1.out; clear hrun hm2 hg2))
                    go_ret
                    exact ⟨by rw [HI.out, HCI.out, HA.out]; rfl, T2.out.below⟩
                  | true =>
                    obtain ⟨cq, e0, cq1, cq2'⟩ := count_some hq
                    have cq2 : cq ≤ 100 := by omega
                    have cq3 : 1 < cq + 1 := by omega
                    have e1 := count_one e0
                    clear cq2'
                    have hrun := HTB.out.m.look0 lawS Tryd.underlying108 HKS.out e0
                    have E0 := Lib.hid e0
                    have E1 := Lib.hid e1
                    have HQ := Lib.hid hq
                    clear e0 e1 hq
                    go_wp2_with ((at_mapUpdate; refine wpList_count rfl _ _ _ 108 rfl lawS Tryd.underlying108 rfl HTB.out.m (by omega) (by omega) _ (nm t.f1) rfl HKS.out (injS _) (isS _) _ (by rw [E0.out] <;> rfl) rfl ?_; intro w2 hm2 hg2; have T2 := Aside0.mk (HTB.out.up hm2.snoc hg2); have B2_ := Aside0.mk ((hg2.block _ (by simp) (fun e => by injection e with e; have := hszr; omega)).trans (heap_alloc_new wr (.cells #[.int .i64 t.f0, .string t.f1, .slice A2 t.f2.length c2, .slice A3 t.f3.length c3, .int .i64 t.f4] 70))); have k0_ := (blk_cell B2_.out 0).trans (rfl : _ = some (Value.int .i64 t.f0)); have k1_ := (blk_cell B2_.out 1).trans (rfl : _ = some (Value.string t.f1)); have k2_ := (blk_cell B2_.out 2).trans (rfl : _ = some (Value.slice A2 t.f2.length c2)); have k3_ := (blk_cell B2_.out 3).trans (rfl : _ = some (Value.slice A3 t.f3.length c3)); have k4_ := (blk_cell B2_.out 4).trans (rfl : _ = some (Value.int .i64 t.f4)); have j2_ := (blk_cell T2.out.box 2).trans (rfl : _ = some (Value.int .i64 nx)); have hrun2 := T2.out.m.look0 lawS Tryd.underlying108 HKS.out E1.out; clear hrun hm2 hg2))
                    go_ret
                    exact ⟨by rw [HI.out, HCI.out, HA.out]; rfl, T2.out.below⟩
                | true =>
                  rw [ha] at F1
                  have HA := Lib.hid ha
                  clear ha
                  simp only [Bool.not_true] at F1
                  cases hb : decide (t.f0 < nx) with
                  | false =>
                    rw [hb] at F2
                    have HBb := Lib.hid hb
                    clear hb
                    simp only [Bool.not_false] at F2
                    cases hq : nsC.contains (nm t.f1) with
                    | false =>
                      have e0 := count_none hq
                      have e1 : _ = (1 : Int) := count_one e0
                      have hrun := HTB.out.m.look0 lawS Tryd.underlying108 HKS.out e0
                      have E0 := Lib.hid e0
                      have E1 := Lib.hid e1
                      have HQ := Lib.hid hq
                      clear e0 e1 hq
                      go_wp2_with ((at_mapUpdate; refine wpList_count rfl _ _ _ 108 rfl lawS Tryd.underlying108 rfl HTB.out.m (by omega) (by omega) _ (nm t.f1) rfl HKS.out (injS _) (isS _) _ (by rw [E0.out] <;> rfl) rfl ?_; intro w2 hm2 hg2; have T2 := Aside0.mk (HTB.out.up hm2.snoc hg2); have B2_ := Aside0.mk ((hg2.block _ (by simp) (fun e => by injection e with e; have := hszr; omega)).trans (heap_alloc_new wr (.cells #[.int .i64 t.f0, .string t.f1, .slice A2 t.f2.length c2, .slice A3 t.f3.length c3, .int .i64 t.f4] 70))); have k0_ := (blk_cell B2_.out 0).trans (rfl : _ = some (Value.int .i64 t.f0)); have k1_ := (blk_cell B2_.out 1).trans (rfl : _ = some (Value.string t.f1)); have k2_ := (blk_cell B2_.out 2).trans (rfl : _ = some (Value.slice A2 t.f2.length c2)); have k3_ := (blk_cell B2_.out 3).trans (rfl : _ = some (Value.slice A3 t.f3.length c3)); have k4_ := (blk_cell B2_.out 4).trans (rfl : _ = some (Value.int .i64 t.f4)); have j2_ := (blk_cell T2.out.box 2).trans (rfl : _ = some (Value.int .i64 nx)); have hrun2 := T2.out.m.look0 lawS Tryd.underlying108 HKS.out E1.out; clear hrun hm2 hg2))
                      go_ret
                      exact ⟨by rw [HI.out, HCI.out, HA.out, HBb.out]; rfl, T2.out.below⟩
                    | true =>
                      obtain ⟨cq, e0, cq1, cq2'⟩ := count_some hq
                      have cq2 : cq ≤ 100 := by omega
                      have cq3 : 1 < cq + 1 := by omega
                      have e1 := count_one e0
                      clear cq2'
                      have hrun := HTB.out.m.look0 lawS Tryd.underlying108 HKS.out e0
                      have E0 := Lib.hid e0
                      have E1 := Lib.hid e1
                      have HQ := Lib.hid hq
                      clear e0 e1 hq
                      go_wp2_with ((at_mapUpdate; refine wpList_count rfl _ _ _ 108 rfl lawS Tryd.underlying108 rfl HTB.out.m (by omega) (by omega) _ (nm t.f1) rfl HKS.out (injS _) (isS _) _ (by rw [E0.out] <;> rfl) rfl ?_; intro w2 hm2 hg2; have T2 := Aside0.mk (HTB.out.up hm2.snoc hg2); have B2_ := Aside0.mk ((hg2.block _ (by simp) (fun e => by injection e with e; have := hszr; omega)).trans (heap_alloc_new wr (.cells #[.int .i64 t.f0, .string t.f1, .slice A2 t.f2.length c2, .slice A3 t.f3.length c3, .int .i64 t.f4] 70))); have k0_ := (blk_cell B2_.out 0).trans (rfl : _ = some (Value.int .i64 t.f0)); have k1_ := (blk_cell B2_.out 1).trans (rfl : _ = some (Value.string t.f1)); have k2_ := (blk_cell B2_.out 2).trans (rfl : _ = some (Value.slice A2 t.f2.length c2)); have k3_ := (blk_cell B2_.out 3).trans (rfl : _ = some (Value.slice A3 t.f3.length c3)); have k4_ := (blk_cell B2_.out 4).trans (rfl : _ = some (Value.int .i64 t.f4)); have j2_ := (blk_cell T2.out.box 2).trans (rfl : _ = some (Value.int .i64 nx)); have hrun2 := T2.out.m.look0 lawS Tryd.underlying108 HKS.out E1.out; clear hrun hm2 hg2))
                      go_ret
                      exact ⟨by rw [HI.out, HCI.out, HA.out, HBb.out]; rfl, T2.out.below⟩
                  | true =>
                    rw [hb] at F2
                    have HBb := Lib.hid hb
                    clear hb
                    simp only [Bool.not_true] at F2
                    cases hq : nsC.contains (nm t.f1) with
                    | true =>
                      obtain ⟨cq, e0, cq1, cq2'⟩ := count_some hq
                      have cq2 : cq ≤ 100 := by omega
                      have cq3 : 1 < cq + 1 := by omega
                      have e1 := count_one e0
                      clear cq2'
                      have hrun := HTB.out.m.look0 lawS Tryd.underlying108 HKS.out e0
                      have E0 := Lib.hid e0
                      have E1 := Lib.hid e1
                      have HQ := Lib.hid hq
                      clear e0 e1 hq
                      go_wp2_with ((at_mapUpdate; refine wpList_count rfl _ _ _ 108 rfl lawS Tryd.underlying108 rfl HTB.out.m (by omega) (by omega) _ (nm t.f1) rfl HKS.out (injS _) (isS _) _ (by rw [E0.out] <;> rfl) rfl ?_; intro w2 hm2 hg2; have T2 := Aside0.mk (HTB.out.up hm2.snoc hg2); have B2_ := Aside0.mk ((hg2.block _ (by simp) (fun e => by injection e with e; have := hszr; omega)).trans (heap_alloc_new wr (.cells #[.int .i64 t.f0, .string t.f1, .slice A2 t.f2.length c2, .slice A3 t.f3.length c3, .int .i64 t.f4] 70))); have k0_ := (blk_cell B2_.out 0).trans (rfl : _ = some (Value.int .i64 t.f0)); have k1_ := (blk_cell B2_.out 1).trans (rfl : _ = some (Value.string t.f1)); have k2_ := (blk_cell B2_.out 2).trans (rfl : _ = some (Value.slice A2 t.f2.length c2)); have k3_ := (blk_cell B2_.out 3).trans (rfl : _ = some (Value.slice A3 t.f3.length c3)); have k4_ := (blk_cell B2_.out 4).trans (rfl : _ = some (Value.int .i64 t.f4)); have j2_ := (blk_cell T2.out.box 2).trans (rfl : _ = some (Value.int .i64 nx)); have hrun2 := T2.out.m.look0 lawS Tryd.underlying108 HKS.out E1.out; clear hrun hm2 hg2))
                      go_ret
                      exact ⟨by rw [HI.out, HCI.out, HA.out, HBb.out, HQ.out]; rfl, T2.out.below⟩
                    | false =>
                      cases htb : tableB t with
                      | false =>
                        have e0 := count_none hq
                        have e1 : _ = (1 : Int) := count_one e0
                        have hrun := HTB.out.m.look0 lawS Tryd.underlying108 HKS.out e0
                        have E0 := Lib.hid e0
                        have E1 := Lib.hid e1
                        have HQ := Lib.hid hq
                        clear e0 e1 hq
                        have HB := Lib.hid htb
                        clear htb
                        go_wp2_with (first | (at_mapUpdate; refine wpList_count rfl _ _ _ 108 rfl lawS Tryd.underlying108 rfl HTB.out.m (by omega) (by omega) _ (nm t.f1) rfl HKS.out (injS _) (isS _) _ (by rw [E0.out] <;> rfl) rfl ?_; intro w2 hm2 hg2; have T2 := Aside0.mk (HTB.out.up hm2.snoc hg2); have B2_ := Aside0.mk ((hg2.block _ (by simp) (fun e => by injection e with e; have := hszr; omega)).trans (heap_alloc_new wr (.cells #[.int .i64 t.f0, .string t.f1, .slice A2 t.f2.length c2, .slice A3 t.f3.length c3, .int .i64 t.f4] 70))); have k0_ := (blk_cell B2_.out 0).trans (rfl : _ = some (Value.int .i64 t.f0)); have k1_ := (blk_cell B2_.out 1).trans (rfl : _ = some (Value.string t.f1)); have k2_ := (blk_cell B2_.out 2).trans (rfl : _ = some (Value.slice A2 t.f2.length c2)); have k3_ := (blk_cell B2_.out 3).trans (rfl : _ = some (Value.slice A3 t.f3.length c3)); have k4_ := (blk_cell B2_.out 4).trans (rfl : _ = some (Value.int .i64 t.f4)); have j2_ := (blk_cell T2.out.box 2).trans (rfl : _ = some (Value.int .i64 nx)); have hrun2 := T2.out.m.look0 lawS Tryd.underlying108 HKS.out E1.out; clear hrun hm2 hg2) | (go_at_call 74; refine (table_may t HWT.out A2 c2 A3 c3 w2 (HG.out.of_below T2.out.below) hd2 (Kd.C_below HI2.out T2.out.below) hd3 (Kd.C_below HI3.out T2.out.below)).mono ?_; rintro e w4 ⟨rfl, hb4⟩; rw [HB.out]; have T4 := Aside0.mk (T2.out.step hb4); have B4_ := Aside0.mk (blk_below B2_.out hb4); have k0__ := (blk_cell B4_.out 0).trans (rfl : _ = some (Value.int .i64 t.f0)); clear hb4))
                        go_ret
                        exact ⟨by rw [HI.out, HCI.out, HA.out, HBb.out, HQ.out, HB.out]; rfl, T4.out.below⟩
                      | true =>
                        have e0 := count_none hq
                        have e1 : _ = (1 : Int) := count_one e0
                        have hrun := HTB.out.m.look0 lawS Tryd.underlying108 HKS.out e0
                        have E0 := Lib.hid e0
                        have E1 := Lib.hid e1
                        have HQ := Lib.hid hq
                        clear e0 e1 hq
                        have HB := Lib.hid htb
                        clear htb
                        go_wp2_with (first | (at_mapUpdate; refine wpList_count rfl _ _ _ 108 rfl lawS Tryd.underlying108 rfl HTB.out.m (by omega) (by omega) _ (nm t.f1) rfl HKS.out (injS _) (isS _) _ (by rw [E0.out] <;> rfl) rfl ?_; intro w2 hm2 hg2; have T2 := Aside0.mk (HTB.out.up hm2.snoc hg2); have B2_ := Aside0.mk ((hg2.block _ (by simp) (fun e => by injection e with e; have := hszr; omega)).trans (heap_alloc_new wr (.cells #[.int .i64 t.f0, .string t.f1, .slice A2 t.f2.length c2, .slice A3 t.f3.length c3, .int .i64 t.f4] 70))); have k0_ := (blk_cell B2_.out 0).trans (rfl : _ = some (Value.int .i64 t.f0)); have k1_ := (blk_cell B2_.out 1).trans (rfl : _ = some (Value.string t.f1)); have k2_ := (blk_cell B2_.out 2).trans (rfl : _ = some (Value.slice A2 t.f2.length c2)); have k3_ := (blk_cell B2_.out 3).trans (rfl : _ = some (Value.slice A3 t.f3.length c3)); have k4_ := (blk_cell B2_.out 4).trans (rfl : _ = some (Value.int .i64 t.f4)); have j2_ := (blk_cell T2.out.box 2).trans (rfl : _ = some (Value.int .i64 nx)); have hrun2 := T2.out.m.look0 lawS Tryd.underlying108 HKS.out E1.out; clear hrun hm2 hg2) | (go_at_call 74; refine (table_may t HWT.out A2 c2 A3 c3 w2 (HG.out.of_below T2.out.below) hd2 (Kd.C_below HI2.out T2.out.below) hd3 (Kd.C_below HI3.out T2.out.below)).mono ?_; rintro e w4 ⟨rfl, hb4⟩; rw [HB.out]; have T4 := Aside0.mk (T2.out.step hb4); have B4_ := Aside0.mk (blk_below B2_.out hb4); have k0__ := (blk_cell B4_.out 0).trans (rfl : _ = some (Value.int .i64 t.f0)); clear hb4))
                        go_roundg (ts.length - (kk + 1))
                        case measure => omega
                        case rel =>
                          refine ⟨kk + 1, t.f0, by omega, by omega, rfl, by go_num, ⟨?_⟩, ⟨?_⟩⟩
                          · rw [hTN.out]; exact T4.out
                          · rw [HCI.out, HA.out, HBb.out, HQ.out, HB.out, hTN.out]; rfl
              · have hltz : ¬ (kk : Int) < (ts.length : Int) := by omega
                have hkd : ts.drop kk = [] := List.drop_eq_nil_of_le (by omega)
                rw [hkd] at HCI'
                have HC1 := Lib.hid (show tabsB nx 0 [] ts = true from HCI'.out)
                clear HCI' hkd
                go_wp2
                go_ret
                exact ⟨by rw [HI.out, HC1.out]; rfl, HT'.out.below⟩
end Go.Proofs.YtjgomlcdmpcoaaaDoor.H
namespace Go.Proofs.YtjgomlcdmpcoaaaDoor.H
open Go.RowKit Go.Proofs.YtjgomlcdmpcoaaaDoorW.PrintWords Go.Proofs.YtjgomlcdmpcoaaaDoorW.PrintLast Go.Proofs.YtjgomlcdmpcoaaaDoorW.PrintMore
open Go.Proofs.YtjgomlcdmpcoaaaDoor.D Go.Proofs.YtjgomlcdmpcoaaaDoor
set_option linter.unusedVariables false
def Opens {α : Type} (d : Kd α) (t : TypeId) (wf : α → Prop) : Prop :=
  ∀ (H : Type) (enc : TypeId × Value → H) (W : World) (base : Nat) (spare : Nat → Bool) (held : Bool) (fuel : Nat) (cs : List Value) (x : DataW H × List MemPlace),
    DataW.trod enc Tryd.prog W base spare held fuel t cs = some x → ∃ a, d.K W a cs ∧ wf a
theorem opens_int {t : TypeId} {k : IntKind} (ht : Tryd.prog.underlying t = some (.int k)) : Opens (Kd.int k) t (fun n => (Lit.int k n).wf = true) := by
  intro H enc W base spare held fuel cs x h
  obtain ⟨n, rfl, _, hw⟩ := DataW.trod_int ht h
  exact ⟨n, rfl, hw⟩
theorem opens_bool {t : TypeId} (ht : Tryd.prog.underlying t = some .bool) : Opens Kd.bool t (fun _ => True) := by
  intro H enc W base spare held fuel cs x h
  obtain ⟨n, rfl, _⟩ := DataW.trod_bool ht h
  exact ⟨n, rfl, trivial⟩
theorem opens_string {t : TypeId} (ht : Tryd.prog.underlying t = some .string) : Opens Kd.string t (fun s => s.size ≤ maxLen) := by
  intro H enc W base spare held fuel cs x h
  obtain ⟨n, rfl, _, hw⟩ := DataW.trod_string ht h
  exact ⟨n, rfl, hw⟩
theorem Opens.weak {α : Type} {d : Kd α} {t : TypeId} {wf wf' : α → Prop} (h : Opens d t wf) (hw : ∀ a, wf a → wf' a) : Opens d t wf' := by
  intro H enc W base spare held fuel cs x hx
  obtain ⟨a, h1, h2⟩ := h H enc W base spare held fuel cs x hx
  exact ⟨a, h1, hw a h2⟩
theorem rows_exist {α : Type} (P : Nat → α → Prop) : ∀ n, (∀ i, i < n → ∃ y, P i y) → ∃ xs : List α, xs.length = n ∧ ∀ i y, xs[i]? = some y → P i y
  | 0, _ => ⟨[], rfl, fun i y h => by simp at h⟩
  | n + 1, h => by
    obtain ⟨xs, hl, hx⟩ := rows_exist P n (fun i hi => h i (by omega))
    obtain ⟨y, hy⟩ := h n (by omega)
    refine ⟨xs ++ [y], by simp [hl], fun i z hz => ?_⟩
    by_cases hi : i < xs.length
    · rw [List.getElem?_append_left hi] at hz
      exact hx i z hz
    · have hlt := (List.getElem?_eq_some_iff.1 hz).1
      have e : i = n := by simp [hl] at hlt; omega
      subst e
      have : z = y := by rw [List.getElem?_append_right (by omega), hl] at hz; simpa using hz.symm
      rw [this]
      exact hy
theorem add_add (a : Addr) (m j : Nat) : (a.add m).add j = a.add (m + j) := by
  unfold Addr.add
  by_cases hm : m = 0
  · subst hm
    simp
  · by_cases hj : j = 0
    · subst hj
      simp [hm]
    · simp [hm, hj, Nat.add_assoc]
theorem opens_slice {α : Type} {d : Kd α} {t e : TypeId} {wf : α → Prop} (ht : Tryd.prog.underlying t = some (.slice e)) (he : Opens d e wf) (hs : Tryd.prog.cellsOf e = d.sz) : Opens (Kd.slice e d) t (fun xs => ∀ x ∈ xs, wf x) := by
  intro H enc W base spare held fuel cs x h
  rcases DataW.trod_slice ht h with ⟨rfl, _⟩ | ⟨a, len, cap, elems, rest, n, _, rfl, rfl, hb, hl, hm, hlen, hel, _, _⟩
  · exact ⟨[], ⟨none, 0, rfl, Nat.le_refl _, ⟨rfl, Nat.zero_le _, fun h => absurd h (by simp)⟩⟩, fun x hx => by cases hx⟩
  · obtain ⟨xs, hxl, hx⟩ := rows_exist (fun i (y : α) => (∃ c, c.length = d.sz ∧ d.K W y c ∧ ∀ j u, c[j]? = some u → W.cell? (a.add (i * d.sz + j)) = some u) ∧ wf y) len (fun i hi => by
      have h1 := hel i hi
      have h2 : elems[i]? = some elems[i] := List.getElem?_eq_getElem (by omega)
      rw [h2, Option.bind_eq_some_iff] at h1
      obtain ⟨c, hc, hy⟩ := h1
      obtain ⟨_, hcl, hcell⟩ := World.cells?_some hc
      obtain ⟨y, hK, hw⟩ := he H enc W base spare held n c _ hy
      refine ⟨y, ⟨c, by rw [hcl, hs], hK, fun j u hu => ?_⟩, hw⟩
      have hj : j < Tryd.prog.cellsOf e := by rw [← hcl]; exact (List.getElem?_eq_some_iff.1 hu).1
      have := hcell j hj
      rw [hu, add_add, hs] at this
      exact this)
    refine ⟨xs, ⟨some a, cap, by rw [hxl], by omega, ⟨rfl, by unfold maxLen at hm; omega, fun _ => ⟨a, rfl, fun j p hp => ?_⟩⟩⟩, fun y hy => ?_⟩
    · obtain ⟨⟨c, h1, h2, h3⟩, _⟩ := hx j p hp
      exact ⟨c, h1, h2, h3⟩
    · obtain ⟨i, hi, rfl⟩ := List.getElem_of_mem hy
      exact (hx i _ (List.getElem?_eq_getElem hi)).2
theorem struct_get {H : Type} {enc : TypeId × Value → H} {W : World} {base : Nat} {spare : Nat → Bool} {held : Bool} {fuel : Nat} {t : TypeId} {cs : List Value} {x : DataW H × List MemPlace} {fs : Array Field} (ht : Tryd.prog.underlying t = some (.struct fs))
    (h : DataW.trod enc Tryd.prog W base spare held fuel t cs = some x) : cs.length = Tryd.prog.cellsOf t ∧ ∀ (i ty off m : Nat), (fs[i]?).map (fun f => (f.type, f.offset)) = some (ty, off) → Tryd.prog.cellsOf ty = m →
      ∃ y n, DataW.trod enc Tryd.prog W base spare held n ty ((cs.drop off).take m) = some y := by
  obtain ⟨xs, n, _, _, hl, hxs, hf⟩ := DataW.trod_struct ht h
  refine ⟨hl, fun i ty off m hi hm => ?_⟩
  obtain ⟨f, hi, he⟩ := Option.map_eq_some_iff.1 hi
  have hlt : i < fs.size := by
    rcases Nat.lt_or_ge i fs.size with h | h
    · exact h
    · rw [Array.getElem?_eq_none h] at hi; cases hi
  have h1 := hf i f hi
  rw [List.getElem?_eq_getElem (by omega)] at h1
  injection he with e1 e2
  subst e1
  subst e2
  subst hm
  exact ⟨_, n, h1⟩
theorem cells73 : Tryd.prog.cellsOf 73 = 4 := by kernel_rfl
theorem cells75_ : Tryd.prog.cellsOf 75 = 9 := by kernel_rfl
theorem cells98 : Tryd.prog.cellsOf 98 = 5 := by kernel_rfl
theorem cells70 : Tryd.prog.cellsOf 70 = 5 := by kernel_rfl
theorem cells28 : Tryd.prog.cellsOf 28 = 3 := by kernel_rfl
theorem cells3 : Tryd.prog.cellsOf 3 = 1 := by kernel_rfl
theorem cells2 : Tryd.prog.cellsOf 2 = 1 := by kernel_rfl
theorem cells71 : Tryd.prog.cellsOf 71 = 1 := by kernel_rfl
theorem cells9 : Tryd.prog.cellsOf 9 = 1 := by kernel_rfl
theorem cells4 : Tryd.prog.cellsOf 4 = 1 := by kernel_rfl
theorem cells40 : Tryd.prog.cellsOf 40 = 1 := by kernel_rfl
theorem cells67 : Tryd.prog.cellsOf 67 = 1 := by kernel_rfl
theorem cells68 : Tryd.prog.cellsOf 68 = 1 := by kernel_rfl
theorem cells26 : Tryd.prog.cellsOf 26 = 1 := by kernel_rfl
theorem wf_i {n : Int} (h : (Lit.int .i64 n).wf = true) : -9223372036854775808 ≤ n ∧ n < 9223372036854775808 := by
  simp [Lit.wf, IntKind.min, IntKind.max, IntKind.signed, IntKind.bits] at h
  omega
theorem wf_u {n : Int} (h : (Lit.int .u64 n).wf = true) : 0 ≤ n ∧ n < 18446744073709551616 := by
  simp [Lit.wf, IntKind.min, IntKind.max, IntKind.signed, IntKind.bits] at h
  omega
set_option maxRecDepth 100000 in
theorem opens73 : Opens k73 73 ValWf := by
  intro H enc W base spare held fuel cs x h
  obtain ⟨hl, hf⟩ := struct_get Tryd.underlying73 h
  rw [cells73] at hl
  obtain ⟨c0, c1, c2, c3, rfl⟩ : ∃ c0 c1 c2 c3, cs = [c0, c1, c2, c3] := by
    match cs, hl with
    | [c0, c1, c2, c3], _ => exact ⟨c0, c1, c2, c3, rfl⟩
  obtain ⟨y0, n0, h0⟩ := hf 0 3 0 1 rfl cells3
  obtain ⟨x0, hx0, w0⟩ := (opens_int Tryd.underlying3) H enc W base spare held n0 [c0] y0 h0
  obtain ⟨y1, n1, h1⟩ := hf 1 2 1 1 rfl cells2
  obtain ⟨x1, hx1, w1⟩ := (opens_int Tryd.underlying2) H enc W base spare held n1 [c1] y1 h1
  obtain ⟨y2, n2, h2⟩ := hf 2 71 2 1 rfl cells71
  obtain ⟨x2, hx2, w2⟩ := (opens_int Tryd.underlying71) H enc W base spare held n2 [c2] y2 h2
  obtain ⟨y3, n3, h3⟩ := hf 3 9 3 1 rfl cells9
  obtain ⟨x3, hx3, w3⟩ := (opens_string Tryd.underlying9) H enc W base spare held n3 [c3] y3 h3
  injection hx0 with e0
  injection hx1 with e1
  injection hx2 with e2
  injection hx3 with e3
  subst e0 e1 e2 e3
  exact ⟨⟨x0, x1, x2, x3⟩, k73_mk W ⟨x0, x1, x2, x3⟩, wf_u w2⟩
set_option maxRecDepth 100000 in
theorem opens75 : Opens k75 75 ColWf := by
  intro H enc W base spare held fuel cs x h
  obtain ⟨hl, hf⟩ := struct_get Tryd.underlying75 h
  rw [cells75_] at hl
  obtain ⟨c0, c1, c2, c3, c4, c5, c6, c7, c8, rfl⟩ : ∃ c0 c1 c2 c3 c4 c5 c6 c7 c8, cs = [c0, c1, c2, c3, c4, c5, c6, c7, c8] := by
    match cs, hl with
    | [c0, c1, c2, c3, c4, c5, c6, c7, c8], _ => exact ⟨c0, c1, c2, c3, c4, c5, c6, c7, c8, rfl⟩
  obtain ⟨y0, n0, h0⟩ := hf 0 3 0 1 rfl cells3
  obtain ⟨x0, hx0, w0⟩ := (opens_int Tryd.underlying3) H enc W base spare held n0 [c0] y0 h0
  obtain ⟨y1, n1, h1⟩ := hf 1 9 1 1 rfl cells9
  obtain ⟨x1, hx1, w1⟩ := (opens_string Tryd.underlying9) H enc W base spare held n1 [c1] y1 h1
  obtain ⟨y2, n2, h2⟩ := hf 2 3 2 1 rfl cells3
  obtain ⟨x2, hx2, w2⟩ := (opens_int Tryd.underlying3) H enc W base spare held n2 [c2] y2 h2
  obtain ⟨y3, n3, h3⟩ := hf 3 3 3 1 rfl cells3
  obtain ⟨x3, hx3, w3⟩ := (opens_int Tryd.underlying3) H enc W base spare held n3 [c3] y3 h3
  obtain ⟨y4, n4, h4⟩ := hf 4 3 4 1 rfl cells3
  obtain ⟨x4, hx4, w4⟩ := (opens_int Tryd.underlying3) H enc W base spare held n4 [c4] y4 h4
  obtain ⟨y5, n5, h5⟩ := hf 5 73 5 4 rfl cells73
  obtain ⟨x5, hx5, w5⟩ := opens73 H enc W base spare held n5 [c5, c6, c7, c8] y5 h5
  injection hx0 with e0
  injection hx1 with e1
  injection hx2 with e2
  injection hx3 with e3
  injection hx4 with e4
  have e5 := k73_open hx5
  subst e0 e1 e2 e3 e4
  refine ⟨⟨x0, x1, x2, x3, x4, x5⟩, ?_, (wf_i w0).1, (wf_i w0).2, w1, w5⟩
  have := k75_mk W ⟨x0, x1, x2, x3, x4, x5⟩
  rw [e5]
  exact this
theorem opens40 : Opens (Kd.slice 3 (Kd.int .i64)) 40 (fun _ => True) := (opens_slice Tryd.underlying40 (opens_int Tryd.underlying3) cells3).weak (fun _ _ => trivial)
set_option maxRecDepth 100000 in
theorem opens98 : Opens k98 98 IndWf := by
  intro H enc W base spare held fuel cs x h
  obtain ⟨hl, hf⟩ := struct_get Tryd.underlying98 h
  rw [cells98] at hl
  obtain ⟨c0, c1, c2, c3, c4, rfl⟩ : ∃ c0 c1 c2 c3 c4, cs = [c0, c1, c2, c3, c4] := by
    match cs, hl with
    | [c0, c1, c2, c3, c4], _ => exact ⟨c0, c1, c2, c3, c4, rfl⟩
  obtain ⟨y0, n0, h0⟩ := hf 0 3 0 1 rfl cells3
  obtain ⟨x0, hx0, w0⟩ := (opens_int Tryd.underlying3) H enc W base spare held n0 [c0] y0 h0
  obtain ⟨y1, n1, h1⟩ := hf 1 9 1 1 rfl cells9
  obtain ⟨x1, hx1, w1⟩ := (opens_string Tryd.underlying9) H enc W base spare held n1 [c1] y1 h1
  obtain ⟨y2, n2, h2⟩ := hf 2 40 2 1 rfl cells40
  obtain ⟨x2, hx2, w2⟩ := opens40 H enc W base spare held n2 [c2] y2 h2
  obtain ⟨y3, n3, h3⟩ := hf 3 4 3 1 rfl cells4
  obtain ⟨x3, hx3, w3⟩ := (opens_bool Tryd.underlying4) H enc W base spare held n3 [c3] y3 h3
  obtain ⟨y4, n4, h4⟩ := hf 4 3 4 1 rfl cells3
  obtain ⟨x4, hx4, w4⟩ := (opens_int Tryd.underlying3) H enc W base spare held n4 [c4] y4 h4
  injection hx0 with e0
  injection hx1 with e1
  injection hx3 with e3
  injection hx4 with e4
  obtain ⟨A2, c2', e2, l2, g2⟩ := hx2
  injection e2 with e2
  subst e0 e1 e2 e3 e4
  exact ⟨⟨x0, x1, x2, x3, x4⟩, k98_mk W ⟨x0, x1, x2, x3, x4⟩ l2 g2, (wf_i w0).1, (wf_i w0).2, w1⟩
theorem opens67 : Opens (Kd.slice 75 k75) 67 (fun l => ∀ c ∈ l, ColWf c) := opens_slice Tryd.underlying67 opens75 cells75_
theorem opens68 : Opens (Kd.slice 98 k98) 68 (fun l => ∀ c ∈ l, IndWf c) := opens_slice Tryd.underlying68 opens98 cells98
set_option maxRecDepth 100000 in
theorem opens70 : Opens k70 70 TabWf := by
  intro H enc W base spare held fuel cs x h
  obtain ⟨hl, hf⟩ := struct_get Tryd.underlying70 h
  rw [cells70] at hl
  obtain ⟨c0, c1, c2, c3, c4, rfl⟩ : ∃ c0 c1 c2 c3 c4, cs = [c0, c1, c2, c3, c4] := by
    match cs, hl with
    | [c0, c1, c2, c3, c4], _ => exact ⟨c0, c1, c2, c3, c4, rfl⟩
  obtain ⟨y0, n0, h0⟩ := hf 0 3 0 1 rfl cells3
  obtain ⟨x0, hx0, w0⟩ := (opens_int Tryd.underlying3) H enc W base spare held n0 [c0] y0 h0
  obtain ⟨y1, n1, h1⟩ := hf 1 9 1 1 rfl cells9
  obtain ⟨x1, hx1, w1⟩ := (opens_string Tryd.underlying9) H enc W base spare held n1 [c1] y1 h1
  obtain ⟨y2, n2, h2⟩ := hf 2 67 2 1 rfl cells67
  obtain ⟨x2, hx2, w2⟩ := opens67 H enc W base spare held n2 [c2] y2 h2
  obtain ⟨y3, n3, h3⟩ := hf 3 68 3 1 rfl cells68
  obtain ⟨x3, hx3, w3⟩ := opens68 H enc W base spare held n3 [c3] y3 h3
  obtain ⟨y4, n4, h4⟩ := hf 4 3 4 1 rfl cells3
  obtain ⟨x4, hx4, w4⟩ := (opens_int Tryd.underlying3) H enc W base spare held n4 [c4] y4 h4
  injection hx0 with e0
  injection hx1 with e1
  injection hx4 with e4
  obtain ⟨A2, c2', e2, l2, g2⟩ := hx2
  injection e2 with e2
  obtain ⟨A3, c3', e3, l3, g3⟩ := hx3
  injection e3 with e3
  subst e0 e1 e2 e3 e4
  exact ⟨⟨x0, x1, x2, x3, x4⟩, k70_mk W ⟨x0, x1, x2, x3, x4⟩ l2 g2 l3 g3, w1, w2, w3⟩
theorem opens26 : Opens (Kd.slice 70 k70) 26 (fun l => ∀ t ∈ l, TabWf t) := opens_slice Tryd.underlying26 opens70 cells70
set_option maxRecDepth 100000 in
theorem open_schema {H : Type} {enc : TypeId × Value → H} {W : World} {base : Nat} {spare : Nat → Bool} {held : Bool} {fuel : Nat} {cs : List Value} {x : DataW H × List MemPlace} (h : DataW.trod enc Tryd.prog W base spare held fuel 28 cs = some x) :
    ∃ (v : Int) (ts : List S70) (nx : Int) (A : Option Addr) (c : Nat), cs = [.int .i64 v, .slice A ts.length c, .int .i64 nx] ∧ ts.length ≤ c ∧ k70.C W A ts.length ts ∧ (∀ t ∈ ts, TabWf t) ∧ (-9223372036854775808 ≤ v ∧ v < 9223372036854775808) ∧ (-9223372036854775808 ≤ nx ∧ nx < 9223372036854775808) := by
  obtain ⟨hl, hf⟩ := struct_get Tryd.underlying28 h
  rw [cells28] at hl
  obtain ⟨c0, c1, c2, rfl⟩ : ∃ c0 c1 c2, cs = [c0, c1, c2] := by
    match cs, hl with
    | [a, b, c], _ => exact ⟨a, b, c, rfl⟩
  obtain ⟨y0, n0, h0⟩ := hf 0 3 0 1 rfl cells3
  obtain ⟨x0, hx0, w0⟩ := (opens_int Tryd.underlying3) H enc W base spare held n0 [c0] y0 h0
  obtain ⟨y1, n1, h1⟩ := hf 1 26 1 1 rfl cells26
  obtain ⟨x1, hx1, w1⟩ := opens26 H enc W base spare held n1 [c1] y1 h1
  obtain ⟨y2, n2, h2⟩ := hf 2 3 2 1 rfl cells3
  obtain ⟨x2, hx2, w2⟩ := (opens_int Tryd.underlying3) H enc W base spare held n2 [c2] y2 h2
  injection hx0 with e0
  injection hx2 with e2
  obtain ⟨A, c, e1, l1, g1⟩ := hx1
  injection e1 with e1
  subst e0 e1 e2
  exact ⟨x0, x1, x2, A, c, rfl, l1, g1, w1, wf_i w0, wf_i w2⟩
end Go.Proofs.YtjgomlcdmpcoaaaDoor.H
namespace Go.Proofs.YtjgomlcdmpcoaaaDoor.H
open Go.RowKit Go.Proofs.YtjgomlcdmpcoaaaDoorW.PrintWords Go.Proofs.YtjgomlcdmpcoaaaDoorW.PrintLast Go.Proofs.YtjgomlcdmpcoaaaDoorW.PrintMore
set_option linter.unusedVariables false
def WB (T : TypeId) (w : World) (g : Nat) (bs : List Int) : Prop :=
  ∃ v, w.heap[g]? = some (.cells #[v] T (0, 0)) ∧ w.ownsRow (g + 1) 5 1 v bs.length (nums .u8 bs)
structure Wr (g : Nat) (w w' : World) : Prop where
  below : Below g w w'
  block : ∀ i, i < w.heap.size → i ≠ g → (∀ cs fr, w.heap[i]? ≠ some (.cells cs 5 fr)) → w'.heap[i]? = w.heap[i]?
theorem Wr.refl (g : Nat) (w : World) : Wr g w w := ⟨Below.refl _ _, fun _ _ _ _ => rfl⟩
theorem Wr.trans {g : Nat} {a b c : World} (h : Wr g a b) (k : Wr g b c) : Wr g a c :=
  ⟨h.below.trans k.below, fun i hi hne ht => by
    have e := h.block i hi hne ht
    rw [k.block i (Nat.lt_of_lt_of_le hi h.below.size) hne (fun cs fr => by rw [e]; exact ht cs fr), e]⟩
theorem Wr.of_below {g : Nat} {w w' : World} (h : Below w.heap.size w w') (hg : g ≤ w.heap.size) : Wr g w w' := ⟨h.mono hg, fun i hi _ _ => h.block i hi⟩
theorem Wr.cells {g : Nat} {w w' : World} (h : Wr g w w') {i : Nat} {cs : Array Value} {t : TypeId} {fr : Nat × Nat} (hi : w.heap[i]? = some (.cells cs t fr)) (ht : t ≠ 5) (hne : i ≠ g) : w'.heap[i]? = some (.cells cs t fr) := by
  rw [h.block i (lt_of_block hi) hne (fun cs' fr' e => by rw [hi] at e; injection e with e; injection e with _ e _; exact ht e)]
  exact hi
theorem Wr.size {g : Nat} {w w' : World} (h : Wr g w w') : w.heap.size ≤ w'.heap.size := h.below.size
theorem WB.lt {T : TypeId} {w : World} {g : Nat} {bs : List Int} (h : WB T w g bs) : g < w.heap.size := by
  obtain ⟨v, h, _⟩ := h
  exact lt_of_block h
theorem WB.below {T : TypeId} {w w' : World} {g : Nat} {bs : List Int} (h : WB T w g bs) (hb : Below w.heap.size w w') : WB T w' g bs := by
  obtain ⟨v, h1, h2⟩ := h
  exact ⟨v, blk_below h1 hb, pw_own_below h2 hb⟩
theorem blk_cell {w : World} {i j : Nat} {cs : Array Value} {t : TypeId} {fr : Nat × Nat} {v : Value} (hi : w.heap[i]? = some (.cells cs t fr)) (hj : cs[j]? = some v) : w.cell? ⟨i, j, none⟩ = some v := by
  simp [World.cell?, hi, hj]
theorem own_ne_writer {T : TypeId} {w : World} {g : Nat} {bs : List Int} {v : Value} (h : w.ownsRow (g + 1) 5 1 v bs.length (nums .u8 bs)) : v.ownBlock ≠ some g := by
  rcases h.2 with ⟨rfl, _⟩ | ⟨g', cap, cur, rfl, hg, _⟩
  · simp [Value.ownBlock]
  · simp [Value.ownBlock]; omega
theorem wr_store {T : TypeId} (hT : T ≠ 5) {w W W1 : World} {g : Nat} {bs cs : List Int} {v v' : Value} (hv : w.heap[g]? = some (.cells #[v] T (0, 0))) (ho : w.ownsRow (g + 1) 5 1 v bs.length (nums .u8 bs))
    (hb : Below w.heap.size w W) (hown : W1.ownsRow (g + 1) 5 1 v' (bs.length + cs.length) (nums .u8 bs ++ nums .u8 cs)) (hg : W.grownBy W1 v.ownBlock) :
    WB T (W1.setCell ⟨g, 0, none⟩ v') g (bs ++ cs) ∧ Wr g w (W1.setCell ⟨g, 0, none⟩ v') := by
  have hlt := lt_of_block hv
  have hne := own_ne_writer (T := T) ho
  have hgW : W1.heap[g]? = some (.cells #[v] T (0, 0)) := by
    rw [hg.block g (Nat.lt_of_lt_of_le hlt hb.size) (fun e => hne e.symm), hb.block g hlt]; exact hv
  have e : nums .u8 bs ++ nums .u8 cs = nums .u8 (bs ++ cs) := by simp [nums]
  refine ⟨⟨v', one_setCell hgW, ?_⟩, ?_, ?_⟩
  · rw [List.length_append, ← e]
    exact ownsRow_setCell_other hown (a := ⟨g, 0, none⟩) (own_ne_writer (T := T) (bs := bs ++ cs) (w := W1) (by rw [List.length_append, ← e]; exact hown)) v'
  · refine Below.setCell (p := ⟨g, 0, none⟩) ?_ (Nat.le_refl _) _
    refine ((hb.mono (Nat.le_of_lt hlt)).trans ⟨hg.os, hg.tape, hg.output, hg.size, fun k hk => hg.block k (by have := hb.size; omega) (fun e => ?_)⟩)
    have := own_base ho k e.symm
    omega
  · intro i hi hig ht
    rw [Below.heap_setCell _ _ _ _ hig]
    refine (hg.block i (Nat.lt_of_lt_of_le hi hb.size) (fun e => ?_)).trans (hb.block i hi)
    obtain ⟨cells, hc⟩ := own_typed ho i e.symm
    exact ht _ _ hc
theorem wr_keepA {T : TypeId} {wr : World} {g : Nat} {v : Value} (hv : wr.heap[g]? = some (.cells #[v] T (0, 0))) (o : Obj) :
    (wr.alloc o).drew.cell? ⟨g, 0, none⟩ = some v ∧ (wr.alloc o).drew.frozen? ⟨g, 0, none⟩ = false :=
  ⟨cell_of_one (t := T) (blk_alloc hv o), free_of_one (t := T) (blk_alloc hv o)⟩
theorem wr_keepB {T : TypeId} {wr W w1 : World} {g : Nat} {v : Value} {bs : List Int} (hv : wr.heap[g]? = some (.cells #[v] T (0, 0))) (ho : wr.ownsRow (g + 1) 5 1 v bs.length (nums .u8 bs)) (hb : Below wr.heap.size wr W) (hg : W.grownBy w1 v.ownBlock) :
    w1.drew.cell? ⟨g, 0, none⟩ = some v ∧ w1.drew.frozen? ⟨g, 0, none⟩ = false := by
  have hlt := lt_of_block hv
  have hgW : w1.heap[g]? = some (.cells #[v] T (0, 0)) := by
    rw [hg.block g (Nat.lt_of_lt_of_le hlt hb.size) (fun e => own_ne_writer (T := T) ho e.symm), hb.block g hlt]; exact hv
  exact ⟨cell_of_one (t := T) hgW, free_of_one (t := T) hgW⟩
theorem wr_keepB' {T : TypeId} {wr W w1 : World} {g : Nat} {v : Value} {bs : List Int} (hv : wr.heap[g]? = some (.cells #[v] T (0, 0))) (ho : wr.ownsRow (g + 1) 5 1 v bs.length (nums .u8 bs)) (hb : Below wr.heap.size wr W) (hg : W.grownBy w1 v.ownBlock) :
    w1.cell? ⟨g, 0, none⟩ = some v ∧ w1.frozen? ⟨g, 0, none⟩ = false := wr_keepB hv ho hb hg
theorem WB.new (T : TypeId) (w : World) : WB T (w.alloc (.cells #[.slice none 0 0] T)) w.heap.size [] :=
  ⟨_, heap_alloc_new w _, by simp [nums], .inl ⟨rfl, rfl⟩⟩
def e8 (n : Int) : List Int := [n / 72057594037927936 % 256, n / 281474976710656 % 256, n / 1099511627776 % 256, n / 4294967296 % 256, n / 16777216 % 256, n / 65536 % 256, n / 256 % 256, n % 256]
theorem e8_len (n : Int) : (e8 n).length = 8 := rfl
end Go.Proofs.YtjgomlcdmpcoaaaDoor.H
namespace Go.Proofs.YtjgomlcdmpcoaaaDoor.H
open Go.RowKit Go.Proofs.YtjgomlcdmpcoaaaDoorW.PrintWords Go.Proofs.YtjgomlcdmpcoaaaDoorW.PrintLast Go.Proofs.YtjgomlcdmpcoaaaDoorW.PrintMore
open Go.Proofs.YtjgomlcdmpcoaaaDoor.D Go.Proofs.YtjgomlcdmpcoaaaDoor
set_option linter.unusedVariables false
theorem e8_get (n : Int) (k : Nat) (hk : k < 8) : IntKind.u8.wrap (n / 2 ^ (8 * (7 - (k : Int))).toNat) = (e8 n).getD k 0 := by
  rw [IntKind.wrap_u8]
  match k, hk with
  | 0, _ => rfl
  | 1, _ => rfl
  | 2, _ => rfl
  | 3, _ => rfl
  | 4, _ => rfl
  | 5, _ => rfl
  | 6, _ => rfl
  | 7, _ => simp [e8]
set_option maxRecDepth 100000 in
set_option maxHeartbeats 4000000 in
theorem word_calls (g : Nat) (bs : List Int) (n : Int) (w : World) (hw : WB 112 w g bs) (hlen : bs.length ≤ 1000000000) :
    Calls Tryd.prog 128 #[.pointer (some ⟨g, 0, none⟩), .int .u64 n] w fun e w' => e = .returned (.tuple #[]) ∧ WB 112 w' g (bs ++ e8 n) ∧ Wr g w w' := by
  obtain ⟨i0, hi0, hz0, hz1, hz2⟩ := info_parts D.info5
  have HW := Aside0.mk hw
  clear hw
  go_enter Tryd.func128, Tryd.ntmps128
  go_wp2
  go_loopg [4, 5] 8 (fun gg _ u5 wr => ∃ k : Nat, k ≤ 8 ∧ 8 - k ≤ gg ∧ u5 = .int .i64 k ∧ Aside0 (WB 112 wr g (bs ++ (e8 n).take k) ∧ Wr g w wr))
  case atStart => exact ⟨0, by omega, by omega, rfl, ⟨by simpa using HW.out, Wr.refl _ _⟩⟩
  case round =>
    obtain ⟨k, hk, hg, rfl, HR⟩ := hrel
    by_cases hlt : k < 8
    · obtain ⟨cur, hcur⟩ : ∃ cur, cur = bs ++ (e8 n).take k := ⟨_, rfl⟩
      rw [← hcur] at HR
      have hL : cur.length + 1 ≤ 140737488355328 := by rw [hcur, List.length_append, List.length_take]; omega
      have hbyte : IntKind.u8.wrap (n / 2 ^ (8 * (7 - (k : Int))).toNat) = (e8 n).getD k 0 := e8_get n k hlt
      have hnext : bs ++ (e8 n).take (k + 1) = cur ++ [(e8 n).getD k 0] := by
        rw [hcur, List.append_assoc, List.take_succ_eq_append_getElem (by rw [e8_len]; exact hlt), List.getD_eq_getElem?_getD, List.getElem?_eq_getElem (by rw [e8_len]; exact hlt)]
        rfl
      have HN := Lib.hid hnext
      have HB := Lib.hid hbyte
      clear hcur hnext hbyte
      obtain ⟨⟨v, hv, ho⟩, hwr⟩ := HR.out
      have c0 := cell_of_one hv
      have f0 := free_of_one hv
      have HV := Aside0.mk hv
      have HO := Aside0.mk ho
      have HWR := Aside0.mk hwr
      clear HR hv ho hwr
      have hL1 : cur.length + 1 ≤ maxLen := by unfold maxLen; omega
      have hL2 : (cur.length + 1) * 1 ≤ 140737488355328 := by omega
      have hL3 : g + 1 ≤ (wr.alloc (Obj.cells #[Value.int IntKind.u8 (IntKind.u8.wrap (n / 2 ^ (8 * (7 - (k : Int))).toNat))] 5)).heap.size := by have := lt_of_block HV.out; simp; omega
      have e1 : IntKind.i64.wrap (7 - (k : Int)) = 7 - (k : Int) := IntWalk.i64_in _ (by omega)
      have e2 : IntKind.i64.wrap (8 * (7 - (k : Int))) = 8 * (7 - (k : Int)) := IntWalk.i64_in _ (by omega)
      have e3 : (0 : Int) ≤ 8 * (7 - (k : Int)) := by omega
      have c2 : ∀ o, (wr.alloc o).cell? ⟨g, 0, none⟩ = some v := fun o => cell_of_one (t := 112) (blk_alloc HV.out o)
      go_wp2_with fail
      go_region_law
        ((refine step_append_lies _ (by rfl) _ _ _ (by rfl) (g + 1) 5 i0 _ 1 1 Tryd.underlying61 hi0 hz0 hz1 hz2 rfl (by omega) v cur.length (nums .u8 cur) (by rfl) (HO.out.alloc _) ⟨wr.heap.size, 0, none⟩ 1 1 (nums .u8 [IntKind.u8.wrap (n / 2 ^ (8 * (7 - (k : Int))).toNat)]) (by rfl) (by rfl) (World.news_of_block (cs := #[_]) (t := 5) (fr := (0, 0)) (heap_alloc_new wr _)) (by simp [nums, Value.oneCell']) (by omega) hL1 hL2 hL3 (wr.heap.size + 1) (by simp) ?_; intro gg cap w1 hown1 hgrow hat hlt1; have c1 := (wr_keepB' HV.out HO.out (below_drew (below_alloc (Below.refl _ _) _)) hgrow).1; have f1 := (wr_keepB' HV.out HO.out (below_drew (below_alloc (Below.refl _ _) _)) hgrow).2))
      all_goals
        have hst := wr_store (T := 112) (by decide) HV.out HO.out (below_drew (below_alloc (Below.refl _ _) _)) hown1 hgrow
        rw [HB.out, ← HN.out] at hst
        have HS := Aside0.mk hst
        clear hst hown1 hgrow e1 e2 e3 c2 hL1 hL2 hL3 hat
        go_wp2
        go_roundg (8 - (k + 1))
        case measure => omega
        case rel => exact ⟨k + 1, by omega, by omega, by go_num, ⟨HS.out.1, HWR.out.trans HS.out.2⟩⟩
    · obtain rfl : k = 8 := by omega
      go_wp2
      go_end0
      exact ⟨rfl, by simpa [e8] using HR.out.1, HR.out.2⟩
def un64 (n : Int) : Int := n % 18446744073709551616
set_option maxHeartbeats 1000000 in
theorem num_calls (g : Nat) (bs : List Int) (n : Int) (w : World) (hw : WB 112 w g bs) (hlen : bs.length ≤ 1000000000) :
    Calls Tryd.prog 76 #[.pointer (some ⟨g, 0, none⟩), .int .i64 n] w fun e w' => e = .returned (.tuple #[]) ∧ WB 112 w' g (bs ++ e8 (un64 n)) ∧ Wr g w w' := by
  have hc := Lib.hid (word_calls g bs (un64 n) w hw hlen)
  clear hw
  go_enter Tryd.func76, Tryd.ntmps76
  go_wp2_with (go_at_call 128; refine hc.out.mono ?_; rintro e w' ⟨rfl, hw1, hw2⟩)
  go_end0
  exact ⟨rfl, hw1, hw2⟩
def tru (b : Bool) : Int := if b then 1 else 0
set_option maxHeartbeats 1000000 in
theorem truth_calls (g : Nat) (bs : List Int) (b : Bool) (w : World) (hw : WB 112 w g bs) (hlen : bs.length ≤ 1000000000) :
    Calls Tryd.prog 131 #[.pointer (some ⟨g, 0, none⟩), .bool b] w fun e w' => e = .returned (.tuple #[]) ∧ WB 112 w' g (bs ++ e8 (tru b)) ∧ Wr g w w' := by
  cases b with
  | true =>
    have hc := Lib.hid (num_calls g bs 1 w hw hlen)
    clear hw
    go_enter Tryd.func131, Tryd.ntmps131
    go_wp2_with (go_at_call 76; refine hc.out.mono ?_; rintro e w' ⟨rfl, hw1, hw2⟩)
    go_end0
    exact ⟨rfl, hw1, hw2⟩
  | false =>
    have hc := Lib.hid (num_calls g bs 0 w hw hlen)
    clear hw
    go_enter Tryd.func131, Tryd.ntmps131
    go_wp2_with (go_at_call 76; refine hc.out.mono ?_; rintro e w' ⟨rfl, hw1, hw2⟩)
    go_end0
    exact ⟨rfl, hw1, hw2⟩
end Go.Proofs.YtjgomlcdmpcoaaaDoor.H
namespace Go.Proofs.YtjgomlcdmpcoaaaDoor.H
open Go.RowKit Go.Proofs.YtjgomlcdmpcoaaaDoorW.PrintWords Go.Proofs.YtjgomlcdmpcoaaaDoorW.PrintLast Go.Proofs.YtjgomlcdmpcoaaaDoorW.PrintMore
open Go.Proofs.YtjgomlcdmpcoaaaDoor.D Go.Proofs.YtjgomlcdmpcoaaaDoor
set_option linter.unusedVariables false
theorem strCells_nums (s : ByteArray) : Lib.strCells s = nums .u8 (bytesOf s) := by
  unfold Lib.strCells nums bytesOf
  rw [List.map_map]
  rfl
def tx (s : ByteArray) : List Int := e8 (un64 s.size) ++ bytesOf s
theorem tx_len (s : ByteArray) : (tx s).length = 8 + s.size := by unfold tx; rw [List.length_append, e8_len, bytesOf_length]
set_option maxRecDepth 100000 in
set_option maxHeartbeats 1000000 in
theorem text_calls (g : Nat) (bs : List Int) (s : ByteArray) (w : World) (hw : WB 112 w g bs) (hlen : bs.length + s.size + 8 ≤ 1000000000) :
    Calls Tryd.prog 129 #[.pointer (some ⟨g, 0, none⟩), .string s] w fun e w' => e = .returned (.tuple #[]) ∧ WB 112 w' g (bs ++ tx s) ∧ Wr g w w' := by
  obtain ⟨i0, hi0, hz0, hz1, hz2⟩ := info_parts D.info5
  have hc := Lib.hid (num_calls g bs s.size w hw (by omega))
  clear hw
  go_enter Tryd.func129, Tryd.ntmps129
  go_wp2_with fail
  refine hc.out.mono ?_
  rintro e w1 ⟨rfl, hw1, hw2⟩
  obtain ⟨cur, hcur⟩ : ∃ cur, bs ++ e8 (un64 s.size) = cur := ⟨_, rfl⟩
  rw [hcur] at hw1
  obtain ⟨v, hv, ho⟩ := hw1
  have hcl : cur.length = bs.length + 8 := by rw [← hcur, List.length_append, e8_len]
  have HCU := Lib.hid hcur
  clear hcur
  have c0 := cell_of_one hv
  have f0 := free_of_one hv
  have HV := Aside0.mk hv
  have HO := Aside0.mk ho
  have HWR := Aside0.mk hw2
  have hL1 : cur.length + s.size ≤ maxLen := by unfold maxLen; omega
  have hL2 : cur.length + s.size ≤ 140737488355328 := by omega
  have hL3 : g + 1 ≤ w1.heap.size := lt_of_block HV.out
  have HCL := Lib.hid hcl
  clear hv ho hw2 hcl
  go_wp2_with (at_builtin; refine Lib.wpList_append_own_string _ rfl _ _ _ _ rfl (g + 1) 5 i0 Tryd.underlying61 Tryd.underlying9 hi0 hz0 hz1 hz2 v cur.length (nums .u8 cur) rfl HO.out s rfl hL1 hL2 hL3 ?_; intro v2 w2 hown hgrow hnil; rw [strCells_nums] at hown; rw [← bytesOf_length s] at hown; have c1 := (wr_keepB' HV.out HO.out (Below.refl _ _) hgrow).1; have f1 := (wr_keepB' HV.out HO.out (Below.refl _ _) hgrow).2; obtain ⟨A, c, rfl⟩ := own_slice hown; have hst := wr_store (T := 112) (by decide) HV.out HO.out (Below.refl _ _) hown hgrow; have HS := Aside0.mk hst; clear hst hown hgrow hnil hL1 hL2 hL3)
  go_end0
  refine ⟨rfl, ?_, HWR.out.trans HS.out.2⟩
  have := HS.out.1
  rw [← HCU.out] at this
  unfold tx
  rw [← List.append_assoc]
  rw [HCU.out] at this ⊢
  exact this
end Go.Proofs.YtjgomlcdmpcoaaaDoor.H
namespace Go.Proofs.YtjgomlcdmpcoaaaDoor.H
open Go.RowKit Go.Proofs.YtjgomlcdmpcoaaaDoorW.PrintWords Go.Proofs.YtjgomlcdmpcoaaaDoorW.PrintLast Go.Proofs.YtjgomlcdmpcoaaaDoorW.PrintMore
open Go.Proofs.YtjgomlcdmpcoaaaDoor.D Go.Proofs.YtjgomlcdmpcoaaaDoor
set_option linter.unusedVariables false
set_option linter.unusedSimpArgs false
theorem wstep {T : TypeId} {g B : Nat} {w0 W W2 : World} {cur cur2 : List Int} {cs : Array Value} {t : TypeId} {fr : Nat × Nat} (h : WB T W g cur ∧ Wr g w0 W ∧ W.heap[B]? = some (.cells cs t fr)) (ht : t ≠ 5) (hne : B ≠ g)
    (ha : WB T W2 g cur2) (hb : Wr g W W2) : WB T W2 g cur2 ∧ Wr g w0 W2 ∧ W2.heap[B]? = some (.cells cs t fr) := ⟨ha, h.2.1.trans hb, hb.cells h.2.2 ht hne⟩
def cells75 (x : S75) : Array Value := #[.int .i64 x.f0, .string x.f1, .int .i64 x.f2, .int .i64 x.f3, .int .i64 x.f4, .int .i64 x.f5.f0, .int .i64 x.f5.f1, .int .u64 x.f5.f2, .string x.f5.f3]
def colL (x : S75) : List Int := e8 (un64 x.f0) ++ (tx x.f1 ++ (e8 (un64 x.f2) ++ (e8 (un64 x.f3) ++ (e8 (un64 x.f4) ++ (e8 (un64 x.f5.f0) ++ (e8 (un64 x.f5.f1) ++ (e8 x.f5.f2 ++ tx x.f5.f3)))))))
theorem colL_len (x : S75) : (colL x).length = 72 + x.f1.size + x.f5.f3.size := by unfold colL; simp only [List.length_append, e8_len, tx_len]; omega
set_option maxRecDepth 100000 in
set_option maxHeartbeats 4000000 in
theorem column_calls (g : Nat) (bs : List Int) (x : S75) (w : World) (hw : WB 112 w g bs) (hlen : bs.length + x.f1.size + x.f5.f3.size + 72 ≤ 1000000000) :
    Calls Tryd.prog 130 #[.pointer (some ⟨g, 0, none⟩), .agg #[.int .i64 x.f0, .string x.f1, .int .i64 x.f2, .int .i64 x.f3, .int .i64 x.f4, .int .i64 x.f5.f0, .int .i64 x.f5.f1, .int .u64 x.f5.f2, .string x.f5.f3]] w
      fun e w' => e = .returned (.tuple #[]) ∧ WB 112 w' g (bs ++ colL x) ∧ Wr g w w' := by
  have hg := hw.lt
  have hBg : w.heap.size ≠ g := by omega
  have HS := Aside0.mk (show WB 112 (w.alloc (.cells (cells75 x) 75)) g bs ∧ Wr g w (w.alloc (.cells (cells75 x) 75)) ∧ (w.alloc (.cells (cells75 x) 75)).heap[w.heap.size]? = some (.cells (cells75 x) 75 (0, 0)) from
    ⟨hw.below (below_alloc (Below.refl _ _) _), Wr.of_below (below_alloc (Below.refl _ _) _) (Nat.le_of_lt hg), heap_alloc_new w _⟩)
  clear hw
  go_enter Tryd.func130, Tryd.ntmps130
  go_wp2_with fail
  refine (num_calls g _ x.f0 _ HS.out.1 (by (try simp only [List.length_append, e8_len, tx_len]); omega)).mono ?_
  rintro e w2 ⟨rfl, ha, hb⟩
  have n_ := Aside0.mk (wstep HS.out (by decide) hBg ha hb)
  clear HS ha hb
  have HS := n_
  clear n_
  have k1 := blk_cell (j := 1) (v := .string x.f1) HS.out.2.2 rfl
  go_wp2_with fail
  refine (text_calls g _ x.f1 _ HS.out.1 (by (try simp only [List.length_append, e8_len, tx_len]); omega)).mono ?_
  rintro e w2 ⟨rfl, ha, hb⟩
  have n_ := Aside0.mk (wstep HS.out (by decide) hBg ha hb)
  clear HS ha hb k1
  have HS := n_
  clear n_
  have k2 := blk_cell (j := 2) (v := .int .i64 x.f2) HS.out.2.2 rfl
  go_wp2_with fail
  refine (num_calls g _ x.f2 _ HS.out.1 (by (try simp only [List.length_append, e8_len, tx_len]); omega)).mono ?_
  rintro e w2 ⟨rfl, ha, hb⟩
  have n_ := Aside0.mk (wstep HS.out (by decide) hBg ha hb)
  clear HS ha hb k2
  have HS := n_
  clear n_
  have k3 := blk_cell (j := 3) (v := .int .i64 x.f3) HS.out.2.2 rfl
  go_wp2_with fail
  refine (num_calls g _ x.f3 _ HS.out.1 (by (try simp only [List.length_append, e8_len, tx_len]); omega)).mono ?_
  rintro e w2 ⟨rfl, ha, hb⟩
  have n_ := Aside0.mk (wstep HS.out (by decide) hBg ha hb)
  clear HS ha hb k3
  have HS := n_
  clear n_
  have k4 := blk_cell (j := 4) (v := .int .i64 x.f4) HS.out.2.2 rfl
  go_wp2_with fail
  refine (num_calls g _ x.f4 _ HS.out.1 (by (try simp only [List.length_append, e8_len, tx_len]); omega)).mono ?_
  rintro e w2 ⟨rfl, ha, hb⟩
  have n_ := Aside0.mk (wstep HS.out (by decide) hBg ha hb)
  clear HS ha hb k4
  have HS := n_
  clear n_
  have k5 := blk_cell (j := 5) (v := .int .i64 x.f5.f0) HS.out.2.2 rfl
  go_wp2_with fail
  refine (num_calls g _ x.f5.f0 _ HS.out.1 (by (try simp only [List.length_append, e8_len, tx_len]); omega)).mono ?_
  rintro e w2 ⟨rfl, ha, hb⟩
  have n_ := Aside0.mk (wstep HS.out (by decide) hBg ha hb)
  clear HS ha hb k5
  have HS := n_
  clear n_
  have k6 := blk_cell (j := 6) (v := .int .i64 x.f5.f1) HS.out.2.2 rfl
  go_wp2_with fail
  refine (word_calls g _ (un64 x.f5.f1) _ HS.out.1 (by (try simp only [List.length_append, e8_len, tx_len]); omega)).mono ?_
  rintro e w2 ⟨rfl, ha, hb⟩
  have n_ := Aside0.mk (wstep HS.out (by decide) hBg ha hb)
  clear HS ha hb k6
  have HS := n_
  clear n_
  have k7 := blk_cell (j := 7) (v := .int .u64 x.f5.f2) HS.out.2.2 rfl
  go_wp2_with fail
  refine (word_calls g _ x.f5.f2 _ HS.out.1 (by (try simp only [List.length_append, e8_len, tx_len]); omega)).mono ?_
  rintro e w2 ⟨rfl, ha, hb⟩
  have n_ := Aside0.mk (wstep HS.out (by decide) hBg ha hb)
  clear HS ha hb k7
  have HS := n_
  clear n_
  have k8 := blk_cell (j := 8) (v := .string x.f5.f3) HS.out.2.2 rfl
  go_wp2_with fail
  refine (text_calls g _ x.f5.f3 _ HS.out.1 (by (try simp only [List.length_append, e8_len, tx_len]); omega)).mono ?_
  rintro e w2 ⟨rfl, ha, hb⟩
  have n_ := Aside0.mk (wstep HS.out (by decide) hBg ha hb)
  clear HS ha hb k8
  have HS := n_
  clear n_
  go_wp2
  go_end0
  refine ⟨rfl, ?_, HS.out.2.1⟩
  have := HS.out.1
  simp only [List.append_assoc] at this
  exact this
end Go.Proofs.YtjgomlcdmpcoaaaDoor.H
namespace Go.Proofs.YtjgomlcdmpcoaaaDoor.H
open Go.RowKit Go.Proofs.YtjgomlcdmpcoaaaDoorW.PrintWords Go.Proofs.YtjgomlcdmpcoaaaDoorW.PrintLast Go.Proofs.YtjgomlcdmpcoaaaDoorW.PrintMore
open Go.Proofs.YtjgomlcdmpcoaaaDoor.D Go.Proofs.YtjgomlcdmpcoaaaDoor
set_option linter.unusedVariables false
set_option linter.unusedSimpArgs false
def St (T : TypeId) (g : Nat) (w0 W : World) (cur : List Int) (L : List (Nat × Array Value × TypeId)) : Prop :=
  WB T W g cur ∧ Wr g w0 W ∧ ∀ p ∈ L, p.2.2 ≠ 5 ∧ p.1 ≠ g ∧ W.heap[p.1]? = some (.cells p.2.1 p.2.2 (0, 0))
section
variable {T : TypeId} {g : Nat} {w0 W W2 : World} {cur cur2 : List Int} {L : List (Nat × Array Value × TypeId)} {p : Nat × Array Value × TypeId}
theorem St.step (h : St T g w0 W cur L) (ha : WB T W2 g cur2) (hb : Wr g W W2) : St T g w0 W2 cur2 L :=
  ⟨ha, h.2.1.trans hb, fun p hp => let q := h.2.2 p hp; ⟨q.1, q.2.1, hb.cells q.2.2 q.1 q.2.1⟩⟩
theorem St.lt (h : St T g w0 W cur L) : g < W.heap.size := h.1.lt
theorem St.box (h : St T g w0 W cur L) (cs : Array Value) (t : TypeId) (ht : t ≠ 5) : St T g w0 (W.alloc (.cells cs t)) cur ((W.heap.size, cs, t) :: L) := by
  have hb := below_alloc (Below.refl _ W) (.cells cs t)
  refine ⟨h.1.below hb, h.2.1.trans (Wr.of_below hb (Nat.le_of_lt h.1.lt)), fun p hp => ?_⟩
  rcases List.mem_cons.1 hp with rfl | hp
  · exact ⟨ht, (Nat.ne_of_lt h.1.lt).symm, heap_alloc_new W _⟩
  · have q := h.2.2 p hp
    exact ⟨q.1, q.2.1, blk_alloc q.2.2 _⟩
theorem St.pop (h : St T g w0 W cur (p :: L)) : St T g w0 W cur L := ⟨h.1, h.2.1, fun q hq => h.2.2 q (List.mem_cons_of_mem _ hq)⟩
theorem St.head (h : St T g w0 W cur (p :: L)) {j : Nat} {v : Value} (hj : p.2.1[j]? = some v) : W.cell? ⟨p.1, j, none⟩ = some v := blk_cell (h.2.2 p List.mem_cons_self).2.2 hj
theorem St.second {q : Nat × Array Value × TypeId} (h : St T g w0 W cur (q :: p :: L)) {j : Nat} {v : Value} (hj : p.2.1[j]? = some v) : W.cell? ⟨p.1, j, none⟩ = some v := h.pop.head hj
end
theorem fm_take {α : Type} (f : α → List Int) (l : List α) (k : Nat) (h : k < l.length) : (l.take (k + 1)).flatMap f = (l.take k).flatMap f ++ f l[k] := by
  rw [List.take_succ_eq_append_getElem h, List.flatMap_append]
  simp
theorem fm_le {α : Type} (f : α → List Int) (l : List α) (k : Nat) (h : k < l.length) : ((l.take k).flatMap f).length + (f l[k]).length ≤ (l.flatMap f).length := by
  have h1 := fm_take f l k h
  have h2 : (l.flatMap f).length = ((l.take (k + 1)).flatMap f).length + ((l.drop (k + 1)).flatMap f).length := by
    rw [← List.length_append, ← List.flatMap_append, List.take_append_drop]
  rw [h2, h1, List.length_append]
  omega
def colsL (l : List S75) : List Int := l.flatMap colL
def intL (n : Int) : List Int := e8 (un64 n)
def intsL (l : List Int) : List Int := l.flatMap intL
def indL (x : S98) : List Int := e8 (un64 x.f0) ++ (tx x.f1 ++ (e8 (un64 x.f2.length) ++ (intsL x.f2 ++ (e8 (tru x.f3) ++ e8 (un64 x.f4)))))
def indsL (l : List S98) : List Int := l.flatMap indL
def tabL (t : S70) : List Int := e8 (un64 t.f0) ++ (tx t.f1 ++ (e8 (un64 t.f2.length) ++ (colsL t.f2 ++ (e8 (un64 t.f3.length) ++ (indsL t.f3 ++ e8 (un64 t.f4))))))
theorem indL_len (x : S98) : (indL x).length = 40 + x.f1.size + (intsL x.f2).length := by unfold indL; simp only [List.length_append, e8_len, tx_len]; omega
theorem tabL_len (t : S70) : (tabL t).length = 40 + t.f1.size + (colsL t.f2).length + (indsL t.f3).length := by unfold tabL; simp only [List.length_append, e8_len, tx_len]; omega
set_option maxRecDepth 100000 in
set_option maxHeartbeats 16000000 in
theorem table_calls (W0 : World) (g : Nat) (bs : List Int) (t : S70) (A2 : Option Addr) (c2 : Nat) (A3 : Option Addr) (c3 : Nat) (w : World) (hw : WB 112 w g bs) (h0 : Below W0.heap.size W0 w) (hgW : W0.heap.size ≤ g)
    (h2 : k75.C W0 A2 t.f2.length t.f2) (h3 : k98.C W0 A3 t.f3.length t.f3) (hlen : bs.length + (tabL t).length ≤ 1000000000) :
    Calls Tryd.prog 77 #[.pointer (some ⟨g, 0, none⟩), .agg #[.int .i64 t.f0, .string t.f1, .slice A2 t.f2.length c2, .slice A3 t.f3.length c3, .int .i64 t.f4]] w
      fun e w' => e = .returned (.tuple #[]) ∧ WB 112 w' g (bs ++ tabL t) ∧ Wr g w w' := by
  have HS := Aside0.mk (St.box (w0 := w) (L := []) ⟨hw, Wr.refl _ _, fun p hp => by cases hp⟩ #[.int .i64 t.f0, .string t.f1, .slice A2 t.f2.length c2, .slice A3 t.f3.length c3, .int .i64 t.f4] 70 (by decide))
  have HC := Aside0.mk h2
  have HX := Aside0.mk h3
  have H0 := Aside0.mk h0
  have HL := Lib.hid hlen
  have big2 := h2.2.1
  have big3 := h3.2.1
  clear hw h0 h2 h3 hlen
  go_enter Tryd.func77, Tryd.ntmps77
  go_wp2_with fail
  refine (num_calls g _ t.f0 _ HS.out.1 (by have := HL.out; rw [tabL_len] at this; (try simp only [List.length_append, e8_len, tx_len]); omega)).mono ?_
  rintro e w2 ⟨rfl, ha, hb⟩
  have n_ := Aside0.mk (HS.out.step ha hb)
  clear HS ha hb
  have HS := n_
  clear n_
  have k1 := HS.out.head (j := 1) (v := .string t.f1) rfl
  go_wp2_with fail
  refine (text_calls g _ t.f1 _ HS.out.1 (by have := HL.out; rw [tabL_len] at this; (try simp only [List.length_append, e8_len, tx_len]); omega)).mono ?_
  rintro e w2 ⟨rfl, ha, hb⟩
  have n_ := Aside0.mk (HS.out.step ha hb)
  clear HS ha hb k1
  have HS := n_
  clear n_
  have k1 := HS.out.head (j := 2) (v := .slice A2 t.f2.length c2) rfl
  go_wp2_with fail
  refine (num_calls g _ t.f2.length _ HS.out.1 (by have := HL.out; rw [tabL_len] at this; (try simp only [List.length_append, e8_len, tx_len]); omega)).mono ?_
  rintro e w2 ⟨rfl, ha, hb⟩
  have n_ := Aside0.mk (HS.out.step ha hb)
  clear HS ha hb k1
  have HS := n_
  clear n_
  have k1 := HS.out.head (j := 2) (v := .slice A2 t.f2.length c2) rfl
  go_wp2_with fail
  obtain ⟨cur, hcur⟩ : ∃ cur, bs ++ e8 (un64 t.f0) ++ tx t.f1 ++ e8 (un64 t.f2.length) = cur := ⟨_, rfl⟩
  rw [hcur] at HS
  have hcl : cur.length = bs.length + 24 + t.f1.size := by rw [← hcur]; simp only [List.length_append, e8_len, tx_len]; omega
  have HCL := Lib.hid hcl
  have HCU := Lib.hid hcur
  clear hcl hcur k1
  go_loopg [5, 26] t.f2.length (fun gg _ u26 wr => ∃ kk : Nat, kk ≤ t.f2.length ∧ t.f2.length - kk ≤ gg ∧ u26 = .int .i64 kk ∧ Aside0 (St 112 g w wr (cur ++ colsL (t.f2.take kk)) [(w.heap.size, #[.int .i64 t.f0, .string t.f1, .slice A2 t.f2.length c2, .slice A3 t.f3.length c3, .int .i64 t.f4], 70)]))
  case atStart => exact ⟨0, Nat.zero_le _, by omega, rfl, ⟨by have := HS.out; rw [← List.append_nil cur] at this; exact this⟩⟩
  case round =>
    obtain ⟨kk, hkk, hgg, rfl, HR⟩ := hrel
    clear HS
    by_cases hlt : kk < t.f2.length
    · have hltz : (kk : Int) < (t.f2.length : Int) := by omega
      have hC := Kd.C_below HC.out (H0.out.trans (HR.out.2.1.below.mono hgW))
      obtain ⟨ad, eA, h0, h1, h2, h3, h4, h5, h6, h7, h8⟩ := at_T75 hC (kk : Int) (by omega) (by omega)
      have hx : rd_T75 t.f2 (kk : Int) = t.f2[kk] := by unfold rd_T75; simp [List.getD, hlt]
      rw [hx] at h0 h1 h2 h3 h4 h5 h6 h7 h8
      simp only [Int.toNat_natCast] at h0 h1 h2 h3 h4 h5 h6 h7 h8
      cases eA
      have hT := Lib.hid (fm_take colL t.f2 kk hlt)
      have hE := Lib.hid (fm_le colL t.f2 kk hlt)
      generalize t.f2[kk] = x at h0 h1 h2 h3 h4 h5 h6 h7 h8 hT hE
      have HS := Aside0.mk (HR.out.box (cells75 x) 75 (by decide))
      clear hx hC HR
      go_wp2_with fail
      refine (column_calls g _ x _ HS.out.1 (by have a1 := HL.out; have a2 := HCL.out; have a3 := hE.out; rw [tabL_len] at a1; rw [colL_len] at a3; rw [List.length_append]; unfold colsL at *; omega)).mono ?_
      rintro e w2 ⟨rfl, ha, hb⟩
      have n_ := Aside0.mk (HS.out.step ha hb)
      clear HS ha hb h0 h1 h2 h3 h4 h5 h6 h7 h8
      have HS := n_
      clear n_
      go_wp2
      go_roundg (t.f2.length - (kk + 1))
      case measure => omega
      case rel => exact ⟨kk + 1, by omega, by omega, by go_num, ⟨by have := HS.out.pop; unfold colsL at this ⊢; rw [hT.out, ← List.append_assoc]; exact this⟩⟩
    · have hltz : ¬ (kk : Int) < (t.f2.length : Int) := by omega
      have hS := HR.out
      rw [List.take_of_length_le (by omega)] at hS
      have HS := Aside0.mk hS
      clear HR hS
      obtain ⟨wo, hwo⟩ : ∃ wo : World, wo = wr := ⟨_, rfl⟩
      subst hwo
      have k2 := HS.out.head (j := 3) (v := .slice A3 t.f3.length c3) rfl
      go_wp2_with fail
      refine (num_calls g _ t.f3.length _ HS.out.1 (by have := HL.out; have := HCL.out; rw [tabL_len] at *; (try simp only [List.length_append, e8_len, tx_len]); omega)).mono ?_
      rintro e w2 ⟨rfl, ha, hb⟩
      have n_ := Aside0.mk (HS.out.step ha hb)
      clear HS ha hb k2
      have HS := n_
      clear n_
      have k1 := HS.out.head (j := 3) (v := .slice A3 t.f3.length c3) rfl
      go_wp2_with fail
      obtain ⟨cu2, hcu2⟩ : ∃ cu2, cur ++ colsL t.f2 ++ e8 (un64 t.f3.length) = cu2 := ⟨_, rfl⟩
      rw [hcu2] at HS
      have hcl2 : cu2.length = bs.length + 32 + t.f1.size + (colsL t.f2).length := by rw [← hcu2]; simp only [List.length_append, e8_len, tx_len]; have := HCL.out; omega
      have HCL2 := Lib.hid hcl2
      have HCU2 := Lib.hid hcu2
      clear hcl2 hcu2 k1
      go_loopg [7, 42] t.f3.length (fun gg _ u42 wr => ∃ kk : Nat, kk ≤ t.f3.length ∧ t.f3.length - kk ≤ gg ∧ u42 = .int .i64 kk ∧ Aside0 (St 112 g w wr (cu2 ++ indsL (t.f3.take kk)) [(w.heap.size, #[.int .i64 t.f0, .string t.f1, .slice A2 t.f2.length c2, .slice A3 t.f3.length c3, .int .i64 t.f4], 70)]))
      case atStart => exact ⟨0, Nat.zero_le _, by omega, rfl, ⟨by have := HS.out; rw [← List.append_nil cu2] at this; exact this⟩⟩
      case round =>
        obtain ⟨kk, hkk, hgg, rfl, HR⟩ := hrel
        clear HS
        by_cases hlt : kk < t.f3.length
        · have hltz : (kk : Int) < (t.f3.length : Int) := by omega
          have hBW := H0.out.trans (HR.out.2.1.below.mono hgW)
          obtain ⟨ad, B2, d2, eA, h0, h1, h2, h3, h4, hd2, hcols⟩ := at_T98 HX.out (kk : Int) (by omega) (by omega)
          have hx : rd_T98 t.f3 (kk : Int) = t.f3[kk] := by unfold rd_T98; simp [List.getD, hlt]
          rw [hx] at h0 h1 h2 h3 h4 hd2 hcols
          simp only [Int.toNat_natCast] at h0 h1 h2 h3 h4
          replace h0 := pw_cell_below hBW h0
          replace h1 := pw_cell_below hBW h1
          replace h2 := pw_cell_below hBW h2
          replace h3 := pw_cell_below hBW h3
          replace h4 := pw_cell_below hBW h4
          cases eA
          have hT := Lib.hid (fm_take indL t.f3 kk hlt)
          have hE := Lib.hid (fm_le indL t.f3 kk hlt)
          generalize t.f3[kk] = x at h0 h1 h2 h3 h4 hd2 hcols hT hE
          have HS := Aside0.mk (HR.out.box #[.int .i64 x.f0, .string x.f1, .slice B2 x.f2.length d2, .bool x.f3, .int .i64 x.f4] 98 (by decide))
          have HI := Aside0.mk hcols
          have hbx := hcols.2.1
          have hpre : (cu2 ++ indsL (t.f3.take kk)).length + (indL x).length ≤ 1000000000 := by
            have a1 := HL.out; have a2 := HCL2.out; have a3 := hE.out; rw [tabL_len] at a1; rw [List.length_append]; unfold indsL at *; omega
          obtain ⟨pre, hpr⟩ : ∃ pre, cu2 ++ indsL (t.f3.take kk) = pre := ⟨_, rfl⟩
          rw [hpr] at HS hpre
          have HPR := Lib.hid hpr
          have HPL := Lib.hid hpre
          clear hx hcols HR hBW hpr hpre
          go_wp2_with fail
          refine (num_calls g _ x.f0 _ HS.out.1 (by have := HPL.out; rw [indL_len] at this; (try simp only [List.length_append, e8_len, tx_len]); omega)).mono ?_
          rintro e w2 ⟨rfl, ha, hb⟩
          have n_ := Aside0.mk (HS.out.step ha hb)
          clear HS ha hb h0 h1 h2 h3 h4
          have HS := n_
          clear n_
          have k1 := HS.out.head (j := 1) (v := .string x.f1) rfl
          go_wp2_with fail
          refine (text_calls g _ x.f1 _ HS.out.1 (by have := HPL.out; rw [indL_len] at this; (try simp only [List.length_append, e8_len, tx_len]); omega)).mono ?_
          rintro e w2 ⟨rfl, ha, hb⟩
          have n_ := Aside0.mk (HS.out.step ha hb)
          clear HS ha hb k1
          have HS := n_
          clear n_
          have k1 := HS.out.head (j := 2) (v := .slice B2 x.f2.length d2) rfl
          go_wp2_with fail
          refine (num_calls g _ x.f2.length _ HS.out.1 (by have := HPL.out; rw [indL_len] at this; (try simp only [List.length_append, e8_len, tx_len]); omega)).mono ?_
          rintro e w2 ⟨rfl, ha, hb⟩
          have n_ := Aside0.mk (HS.out.step ha hb)
          clear HS ha hb k1
          have HS := n_
          clear n_
          have k1 := HS.out.head (j := 2) (v := .slice B2 x.f2.length d2) rfl
          go_wp2_with fail
          obtain ⟨cu3, hcu3⟩ : ∃ cu3, pre ++ e8 (un64 x.f0) ++ tx x.f1 ++ e8 (un64 x.f2.length) = cu3 := ⟨_, rfl⟩
          rw [hcu3] at HS
          have hcl3 : cu3.length = pre.length + 24 + x.f1.size := by rw [← hcu3]; simp only [List.length_append, e8_len, tx_len]; omega
          have HCL3 := Lib.hid hcl3
          have HCU3 := Lib.hid hcu3
          clear hcl3 hcu3 k1
          obtain ⟨wq, hwq⟩ : ∃ wq : World, wq = wr := ⟨_, rfl⟩
          subst hwq
          go_loopg [9, 62] x.f2.length (fun gg _ u62 wr => ∃ jj : Nat, jj ≤ x.f2.length ∧ x.f2.length - jj ≤ gg ∧ u62 = .int .i64 jj ∧ Aside0 (St 112 g w wr (cu3 ++ intsL (x.f2.take jj)) [(wq.heap.size, #[.int .i64 x.f0, .string x.f1, .slice B2 x.f2.length d2, .bool x.f3, .int .i64 x.f4], 98), (w.heap.size, #[.int .i64 t.f0, .string t.f1, .slice A2 t.f2.length c2, .slice (some ad) t.f3.length c3, .int .i64 t.f4], 70)]))
          case atStart => exact ⟨0, Nat.zero_le _, by omega, rfl, ⟨by have := HS.out; rw [← List.append_nil cu3] at this; exact this⟩⟩
          case round =>
            obtain ⟨jj, hjj, hjg, rfl, HR⟩ := hrel
            clear HS
            by_cases hlj : jj < x.f2.length
            · have hljz : (jj : Int) < (x.f2.length : Int) := by omega
              obtain ⟨ad3, eB, hcell⟩ := (Kd.reads_of_C (enc := Value.int .i64) (d := (0 : Int)) (h1 := fun _ => rfl) HI.out).at_ (jj : Int) (by omega) (by omega)
              have hy : rdOf (0 : Int) x.f2 (jj : Int) = x.f2[jj] := by simp [rdOf, List.getD, hlj]
              rw [hy, Int.toNat_natCast] at hcell
              replace hcell := pw_cell_below (H0.out.trans (HR.out.2.1.below.mono hgW)) hcell
              cases eB
              have hT3 := Lib.hid (fm_take intL x.f2 jj hlj)
              have hE3 := Lib.hid (fm_le intL x.f2 jj hlj)
              generalize x.f2[jj] = y at hcell hT3 hE3
              have HS := HR
              clear hy HR
              go_wp2_with fail
              refine (num_calls g _ y _ HS.out.1 (by have a1 := HPL.out; have a2 := HCL3.out; have a3 := hE3.out; rw [indL_len] at a1; rw [List.length_append]; unfold intsL at *; have a4 : (intL y).length = 8 := rfl; omega)).mono ?_
              rintro e w2 ⟨rfl, ha, hb⟩
              have n_ := Aside0.mk (HS.out.step ha hb)
              clear HS ha hb hcell
              have HS := n_
              clear n_
              go_wp2
              go_roundg (x.f2.length - (jj + 1))
              case measure => omega
              case rel => exact ⟨jj + 1, by omega, by omega, by go_num, ⟨by have := HS.out; unfold intsL at this ⊢; rw [hT3.out, ← List.append_assoc]; exact this⟩⟩
            · have hljz : ¬ (jj : Int) < (x.f2.length : Int) := by omega
              have hS := HR.out
              rw [List.take_of_length_le (by omega)] at hS
              have HS := Aside0.mk hS
              clear HR hS
              have k2 := HS.out.head (j := 3) (v := .bool x.f3) rfl
              go_wp2_with fail
              refine (truth_calls g _ x.f3 _ HS.out.1 (by have a1 := HPL.out; have a2 := HCL3.out; rw [indL_len] at a1; (try simp only [List.length_append, e8_len, tx_len]); omega)).mono ?_
              rintro e w2 ⟨rfl, ha, hb⟩
              have n_ := Aside0.mk (HS.out.step ha hb)
              clear HS ha hb k2
              have HS := n_
              clear n_
              have k1 := HS.out.head (j := 4) (v := .int .i64 x.f4) rfl
              go_wp2_with fail
              refine (num_calls g _ x.f4 _ HS.out.1 (by have a1 := HPL.out; have a2 := HCL3.out; rw [indL_len] at a1; (try simp only [List.length_append, e8_len, tx_len]); omega)).mono ?_
              rintro e w2 ⟨rfl, ha, hb⟩
              have n_ := Aside0.mk (HS.out.step ha hb)
              clear HS ha hb k1
              have HS := n_
              clear n_
              go_wp2
              go_roundg (t.f3.length - (kk + 1))
              case measure => omega
              case rel =>
                refine ⟨kk + 1, by omega, by omega, by go_num, ⟨?_⟩⟩
                have := HS.out.pop
                rw [← HCU3.out, ← HPR.out] at this
                unfold indsL at this ⊢
                rw [hT.out]
                unfold indL
                simp only [List.append_assoc] at this ⊢
                exact this
        · have hltz : ¬ (kk : Int) < (t.f3.length : Int) := by omega
          have hS := HR.out
          rw [List.take_of_length_le (by omega)] at hS
          have HS := Aside0.mk hS
          clear HR hS
          have k2 := HS.out.head (j := 4) (v := .int .i64 t.f4) rfl
          go_wp2_with fail
          refine (num_calls g _ t.f4 _ HS.out.1 (by have a1 := HL.out; have a2 := HCL2.out; rw [tabL_len] at a1; rw [List.length_append]; omega)).mono ?_
          rintro e w2 ⟨rfl, ha, hb⟩
          have n_ := Aside0.mk (HS.out.step ha hb)
          clear HS ha hb k2
          have HS := n_
          clear n_
          go_wp2
          go_end0
          refine ⟨rfl, ?_, HS.out.2.1⟩
          have := HS.out.1
          rw [← HCU2.out, ← HCU.out] at this
          unfold tabL
          simp only [List.append_assoc] at this ⊢
          exact this
end Go.Proofs.YtjgomlcdmpcoaaaDoor.H
namespace Go.Proofs.YtjgomlcdmpcoaaaDoor.H
open Go.RowKit Go.Proofs.YtjgomlcdmpcoaaaDoorW.PrintWords Go.Proofs.YtjgomlcdmpcoaaaDoorW.PrintLast Go.Proofs.YtjgomlcdmpcoaaaDoorW.PrintMore
set_option linter.unusedVariables false
def cr1 (c : Int) : Int := if (bits .and .u32 c 1 == 1) = true then bits .xor .u32 (c / 2) 2197175160 else c / 2
def crN : Nat → Int → Int
  | 0, c => c
  | n + 1, c => crN n (cr1 c)
def crB (c b : Int) : Int := crN 8 (bits .xor .u32 c (b % 4294967296))
def crL (c : Int) (l : List UInt8) : Int := l.foldl (fun c b => crB c (b.toNat : Int)) c
def sumI (s : ByteArray) : Int := bits .xor .u32 IntKind.u32.max (crL 4294967295 s.data.toList)
theorem bits_u32 (op : BinOp) (a b : Int) : 0 ≤ bits op .u32 a b ∧ bits op .u32 a b < 4294967296 := by
  have h : ∀ x : Int, 0 ≤ IntKind.u32.wrap x ∧ IntKind.u32.wrap x < 4294967296 := fun x => by rw [IntKind.wrap_u32']; omega
  cases op <;> exact h _
theorem cr1_bd (c : Int) (h0 : 0 ≤ c) (h1 : c < 4294967296) : 0 ≤ cr1 c ∧ cr1 c < 4294967296 := by
  unfold cr1
  split
  · exact bits_u32 _ _ _
  · omega
set_option maxHeartbeats 1000000 in
theorem sum_calls (s : ByteArray) (w : World) (hs : s.size ≤ maxLen) : Calls Tryd.prog 132 #[.string s] w fun e w' => e = .returned (.int .u32 (sumI s)) ∧ w = w' := by
  unfold maxLen at hs
  go_enter Tryd.func132, Tryd.ntmps132
  go_wp2
  go_loop [3, 7] (fun c i => ∃ k : Nat, ∃ x : Int, k ≤ s.size ∧ i = .int .i64 k ∧ c = .int .u32 x ∧ 0 ≤ x ∧ x < 4294967296 ∧ Aside0 (crL 4294967295 s.data.toList = crL x (s.data.toList.drop k))) (fun _ i => s.size - (intOf i).toNat)
  case atStart => exact ⟨0, _, Nat.zero_le _, rfl, rfl, by decide, by decide, ⟨rfl⟩⟩
  case round =>
    obtain ⟨k, x, hk, rfl, rfl, hx0, hx1, HC⟩ := hrel
    by_cases hlt : k < s.size
    · have hd : s.data.toList.drop k = s[k] :: s.data.toList.drop (k + 1) := by
        have := List.drop_eq_getElem_cons (l := s.data.toList) (i := k) (by rw [Array.length_toList]; exact hlt)
        rw [this]; rfl
      rw [hd] at HC
      have hy := bits_u32 .xor x ((s[k].toNat : Int) % 4294967296)
      have HC2 : Aside0 (crL 4294967295 s.data.toList = crL (crN 8 (bits .xor .u32 x ((s[k].toNat : Int) % 4294967296))) (s.data.toList.drop (k + 1))) := ⟨HC.out⟩
      clear HC hd
      have HY := Aside0.mk hy
      clear hy
      go_wp2
      generalize bits .xor .u32 x ((s[k].toNat : Int) % 4294967296) = y at HC2 HY ⊢
      obtain ⟨hy0, hy1⟩ := HY.out
      clear HY
      go_loop [3, 16] (fun c j => ∃ n : Nat, ∃ z : Int, n ≤ 8 ∧ j = .int .i64 n ∧ c = .int .u32 z ∧ 0 ≤ z ∧ z < 4294967296 ∧ Aside0 (crN 8 y = crN (8 - n) z)) (fun _ j => 8 - (intOf j).toNat)
      case atStart => exact ⟨0, _, by decide, rfl, rfl, hy0, hy1, ⟨rfl⟩⟩
      case round =>
        obtain ⟨n, z, hn, rfl, rfl, hz0, hz1, HZ⟩ := hrel
        by_cases hnl : n < 8
        · have e8 : 8 - n = (8 - (n + 1)) + 1 := by omega
          rw [e8] at HZ
          have bd := cr1_bd z hz0 hz1
          have HB := Aside0.mk bd
          clear bd e8
          cases hq : (bits .and .u32 z 1 == 1) with
          | true =>
            have HZ2 : Aside0 (crN 8 y = crN (8 - (n + 1)) (bits .xor .u32 (z / 2) 2197175160) ∧ cr1 z = bits .xor .u32 (z / 2) 2197175160) := ⟨by rw [HZ.out, crN]; unfold cr1; rw [if_pos hq]; exact ⟨rfl, rfl⟩⟩
            clear HZ
            go_wp2
            go_round
            case rel => exact ⟨n + 1, _, by omega, by go_num, rfl, by rw [← HZ2.out.2]; exact HB.out.1, by rw [← HZ2.out.2]; exact HB.out.2, ⟨HZ2.out.1⟩⟩
            case measure => simp [intOf]; omega
          | false =>
            have HZ2 : Aside0 (crN 8 y = crN (8 - (n + 1)) (z / 2) ∧ cr1 z = z / 2) := ⟨by rw [HZ.out, crN]; unfold cr1; rw [if_neg (by rw [hq]; decide)]; exact ⟨rfl, rfl⟩⟩
            clear HZ
            go_wp2
            go_round
            case rel => exact ⟨n + 1, _, by omega, by go_num, rfl, by rw [← HZ2.out.2]; exact HB.out.1, by rw [← HZ2.out.2]; exact HB.out.2, ⟨HZ2.out.1⟩⟩
            case measure => simp [intOf]; omega
        · obtain rfl : n = 8 := by omega
          have hz : crN 8 y = z := HZ.out
          clear HZ hn
          have HZ := Aside0.mk hz
          clear hz
          go_wp2
          go_round
          case rel => exact ⟨k + 1, z, by omega, by go_num, rfl, hz0, hz1, ⟨by rw [HC2.out, HZ.out]⟩⟩
          case measure => simp [intOf]; omega
    · have hd : s.data.toList.drop k = [] := List.drop_eq_nil_of_le (by rw [Array.length_toList]; have : s.data.size = s.size := rfl; omega)
      have HC2 : Aside0 (crL 4294967295 s.data.toList = x) := ⟨by rw [HC.out, hd]; rfl⟩
      clear HC hd
      go_wp2
      go_ret
      exact ⟨by unfold sumI; rw [HC2.out]; rfl, rfl⟩
set_option maxHeartbeats 1000000 in
theorem rsum_calls (s : ByteArray) (w : World) (hs : s.size ≤ maxLen) : Calls Tryd.prog 135 #[.string s] w fun e w' => e = .returned (.int .u32 (sumI s)) ∧ w = w' := by
  unfold maxLen at hs
  go_enter Tryd.func135, Tryd.ntmps135
  go_wp2
  go_loop [3, 4] (fun c i => ∃ k : Nat, ∃ x : Int, k ≤ s.size ∧ i = .int .i64 k ∧ c = .int .u32 x ∧ 0 ≤ x ∧ x < 4294967296 ∧ Aside0 (crL 4294967295 s.data.toList = crL x (s.data.toList.drop k))) (fun _ i => s.size - (intOf i).toNat)
  case atStart => exact ⟨0, _, Nat.zero_le _, rfl, rfl, by decide, by decide, ⟨rfl⟩⟩
  case round =>
    obtain ⟨k, x, hk, rfl, rfl, hx0, hx1, HC⟩ := hrel
    by_cases hlt : k < s.size
    · have hd : s.data.toList.drop k = s[k] :: s.data.toList.drop (k + 1) := by
        have := List.drop_eq_getElem_cons (l := s.data.toList) (i := k) (by rw [Array.length_toList]; exact hlt)
        rw [this]; rfl
      rw [hd] at HC
      have hy := bits_u32 .xor x ((s[k].toNat : Int) % 4294967296)
      have HC2 : Aside0 (crL 4294967295 s.data.toList = crL (crN 8 (bits .xor .u32 x ((s[k].toNat : Int) % 4294967296))) (s.data.toList.drop (k + 1))) := ⟨HC.out⟩
      clear HC hd
      have HY := Aside0.mk hy
      clear hy
      go_wp2
      generalize bits .xor .u32 x ((s[k].toNat : Int) % 4294967296) = y at HC2 HY ⊢
      obtain ⟨hy0, hy1⟩ := HY.out
      clear HY
      go_loop [3, 5] (fun c j => ∃ n : Nat, ∃ z : Int, n ≤ 8 ∧ j = .int .i64 n ∧ c = .int .u32 z ∧ 0 ≤ z ∧ z < 4294967296 ∧ Aside0 (crN 8 y = crN (8 - n) z)) (fun _ j => 8 - (intOf j).toNat)
      case atStart => exact ⟨0, _, by decide, rfl, rfl, hy0, hy1, ⟨rfl⟩⟩
      case round =>
        obtain ⟨n, z, hn, rfl, rfl, hz0, hz1, HZ⟩ := hrel
        by_cases hnl : n < 8
        · have e8 : 8 - n = (8 - (n + 1)) + 1 := by omega
          rw [e8] at HZ
          have bd := cr1_bd z hz0 hz1
          have HB := Aside0.mk bd
          clear bd e8
          cases hq : (bits .and .u32 z 1 == 1) with
          | true =>
            have HZ2 : Aside0 (crN 8 y = crN (8 - (n + 1)) (bits .xor .u32 (z / 2) 2197175160) ∧ cr1 z = bits .xor .u32 (z / 2) 2197175160) := ⟨by rw [HZ.out, crN]; unfold cr1; rw [if_pos hq]; exact ⟨rfl, rfl⟩⟩
            clear HZ
            go_wp2
            go_round
            case rel => exact ⟨n + 1, _, by omega, by go_num, rfl, by rw [← HZ2.out.2]; exact HB.out.1, by rw [← HZ2.out.2]; exact HB.out.2, ⟨HZ2.out.1⟩⟩
            case measure => simp [intOf]; omega
          | false =>
            have HZ2 : Aside0 (crN 8 y = crN (8 - (n + 1)) (z / 2) ∧ cr1 z = z / 2) := ⟨by rw [HZ.out, crN]; unfold cr1; rw [if_neg (by rw [hq]; decide)]; exact ⟨rfl, rfl⟩⟩
            clear HZ
            go_wp2
            go_round
            case rel => exact ⟨n + 1, _, by omega, by go_num, rfl, by rw [← HZ2.out.2]; exact HB.out.1, by rw [← HZ2.out.2]; exact HB.out.2, ⟨HZ2.out.1⟩⟩
            case measure => simp [intOf]; omega
        · obtain rfl : n = 8 := by omega
          have hz : crN 8 y = z := HZ.out
          clear HZ hn
          have HZ := Aside0.mk hz
          clear hz
          go_wp2
          go_round
          case rel => exact ⟨k + 1, z, by omega, by go_num, rfl, hz0, hz1, ⟨by rw [HC2.out, HZ.out]⟩⟩
          case measure => simp [intOf]; omega
    · have hd : s.data.toList.drop k = [] := List.drop_eq_nil_of_le (by rw [Array.length_toList]; have : s.data.size = s.size := rfl; omega)
      have HC2 : Aside0 (crL 4294967295 s.data.toList = x) := ⟨by rw [HC.out, hd]; rfl⟩
      clear HC hd
      go_wp2
      go_ret
      exact ⟨by unfold sumI; rw [HC2.out]; rfl, rfl⟩
end Go.Proofs.YtjgomlcdmpcoaaaDoor.H
namespace Go.Proofs.YtjgomlcdmpcoaaaDoor.H
open Go.RowKit Go.Proofs.YtjgomlcdmpcoaaaDoorW.PrintWords Go.Proofs.YtjgomlcdmpcoaaaDoorW.PrintLast Go.Proofs.YtjgomlcdmpcoaaaDoorW.PrintMore
set_option linter.unusedVariables false
def four (c : Int) : List Int := [c / 16777216, c / 65536 % 256, c / 256 % 256, c % 256]
def sealB (s : ByteArray) : ByteArray := s ++ strOfNums (four (sumI s))
theorem sumI_bd (s : ByteArray) : 0 ≤ sumI s ∧ sumI s < 4294967296 := bits_u32 _ _ _
theorem four_string (c : Int) (w : World) : (convert 61 9 (Value.slice (some { block := w.heap.size, off := 0 }) 4 4)).run Tryd.prog (w.alloc (Obj.cells #[Value.int IntKind.u8 (c / 16777216), Value.int IntKind.u8 (c / 65536 % 256), Value.int IntKind.u8 (c / 256 % 256), Value.int IntKind.u8 (c % 256)] 5)) = .ok (.string (strOfNums (four c))) (w.alloc (Obj.cells #[Value.int IntKind.u8 (c / 16777216), Value.int IntKind.u8 (c / 65536 % 256), Value.int IntKind.u8 (c / 256 % 256), Value.int IntKind.u8 (c % 256)] 5)) :=
  own_string (base := 0) (e' := 5) Tryd.underlying61 Tryd.underlying5 Tryd.underlying9 (World.ownsRow_lit (base := 0) (e := 5) (size := 1) w (nums .u8 (four c)).toArray 4 (Nat.zero_le _) (by decide) (by simp [nums, four]))
set_option maxRecDepth 100000 in
set_option maxHeartbeats 1000000 in
theorem seal_calls (s : ByteArray) (w : World) (hs : s.size + 4 ≤ maxLen) : Calls Tryd.prog 78 #[.string s] w fun e w' => e = .returned (.string (sealB s)) ∧ Below w.heap.size w w' := by
  have hbd := sumI_bd s
  have hc := Lib.hid (sum_calls s w (by unfold maxLen at hs ⊢; omega))
  unfold maxLen at hs
  have hR : sealB s = s ++ strOfNums (four (sumI s)) := rfl
  generalize sealB s = R at hR ⊢
  have HR := Lib.hid hR
  clear hR
  generalize sumI s = c at hbd hc HR
  obtain ⟨h0, h1⟩ := hbd
  have hz4 : (strOfNums (four c)).size = 4 := rfl
  have hz5 : ¬ 2 ^ 63 - 1 < s.size + 4 := by omega
  have hcv := Lib.hid (four_string c w)
  have hcw := hcv.out
  clear hcv
  go_enter Tryd.func78, Tryd.ntmps78
  go_wp2_with (go_at_call 132; refine hc.out.mono ?_; rintro e w' ⟨rfl, rfl⟩)
  go_ret
  refine ⟨?_, below_alloc (Below.refl _ _) _⟩
  rw [HR.out]
  rfl
set_option maxRecDepth 100000 in
set_option maxHeartbeats 1000000 in
theorem rseal_calls (s : ByteArray) (w : World) (hs : s.size + 4 ≤ maxLen) : Calls Tryd.prog 81 #[.string s] w fun e w' => e = .returned (.string (sealB s)) ∧ Below w.heap.size w w' := by
  have hbd := sumI_bd s
  have hc := Lib.hid (rsum_calls s w (by unfold maxLen at hs ⊢; omega))
  unfold maxLen at hs
  have hR : sealB s = s ++ strOfNums (four (sumI s)) := rfl
  generalize sealB s = R at hR ⊢
  have HR := Lib.hid hR
  clear hR
  generalize sumI s = c at hbd hc HR
  obtain ⟨h0, h1⟩ := hbd
  have hz4 : (strOfNums (four c)).size = 4 := rfl
  have hz5 : ¬ 2 ^ 63 - 1 < s.size + 4 := by omega
  have hcv := Lib.hid (four_string c w)
  have hcw := hcv.out
  clear hcv
  go_enter Tryd.func81, Tryd.ntmps81
  go_wp2_with (go_at_call 135; refine hc.out.mono ?_; rintro e w' ⟨rfl, rfl⟩)
  go_ret
  refine ⟨?_, below_alloc (Below.refl _ _) _⟩
  rw [HR.out]
  rfl
end Go.Proofs.YtjgomlcdmpcoaaaDoor.H
namespace Go.Proofs.YtjgomlcdmpcoaaaDoor.H
open Go.RowKit Go.Proofs.YtjgomlcdmpcoaaaDoorW.PrintWords Go.Proofs.YtjgomlcdmpcoaaaDoorW.PrintLast Go.Proofs.YtjgomlcdmpcoaaaDoorW.PrintMore
open Go.Proofs.YtjgomlcdmpcoaaaDoor.D Go.Proofs.YtjgomlcdmpcoaaaDoor
set_option linter.unusedVariables false
set_option linter.unusedSimpArgs false
def tabsL (l : List S70) : List Int := l.flatMap tabL
def putL (v : Int) (ts : List S70) (nx : Int) : List Int := e8 (un64 v) ++ (e8 (un64 ts.length) ++ (tabsL ts ++ e8 (un64 nx)))
theorem putL_len (v : Int) (ts : List S70) (nx : Int) : (putL v ts nx).length = 24 + (tabsL ts).length := by unfold putL; simp only [List.length_append, e8_len]; omega
theorem nameB_size {s : ByteArray} (h : nameB s = true) : s.size ≤ 16 := by
  rw [nameB_if] at h
  simp only [Bool.and_eq_true, decide_eq_true_eq] at h
  exact h.2.1
theorem toList_size {s : ByteArray} (h : s.toList = []) : s.size = 0 := by
  rw [ByteArray.toList_eq] at h
  have : s.data.toList.length = 0 := by rw [h]; rfl
  rw [Array.length_toList] at this
  exact this
theorem valB_size {v : S73} (h : valB v = true) : v.f3.size ≤ 40 := by
  unfold valB mayB at h
  repeat' split at h
  all_goals simp only [Bool.and_eq_true, beq_iff_eq, decide_eq_true_eq, Bool.false_eq_true] at h
  all_goals first
    | (have := toList_size h.2.2; omega)
    | (have := toList_size h.2; omega)
    | exact h.1
theorem columnB_len {c : S75} (h : columnB c = true) : (colL c).length ≤ 128 := by
  unfold columnB at h
  simp only [Bool.and_eq_true] at h
  have h1 := nameB_size h.1
  have h2 := valB_size h.2.2.2.2.2.1
  rw [colL_len]
  omega
theorem fm_max {α : Type} (f : α → List Int) (m : Nat) : ∀ l : List α, (∀ x ∈ l, (f x).length ≤ m) → (l.flatMap f).length ≤ l.length * m
  | [], _ => by simp
  | x :: l, h => by
    have h1 := fm_max f m l (fun y hy => h y (List.mem_cons_of_mem _ hy))
    have h2 := h x List.mem_cons_self
    rw [List.flatMap_cons, List.length_append, List.length_cons, Nat.succ_mul]
    omega
theorem indexB_len {t : S70} {x : S98} (h : indexB t x = true) : (indL x).length ≤ 120 := by
  unfold indexB at h
  simp only [Bool.and_eq_true, decide_eq_true_eq] at h
  have h1 := nameB_size h.1
  have h2 : (intsL x.f2).length ≤ x.f2.length * 8 := fm_max intL 8 x.f2 (fun y _ => Nat.le_refl _)
  have h3 := h.2.2.1
  rw [indL_len]
  omega
theorem tcolsB_all {next : Int} : ∀ (l : List S75) (ids : List Int) (ns : List (List UInt8)), tcolsB next ids ns l = true → ∀ c ∈ l, columnB c = true
  | [], _, _, _, c, hc => by cases hc
  | x :: l, ids, ns, h, c, hc => by
    unfold tcolsB at h
    simp only [Bool.and_eq_true] at h
    rcases List.mem_cons.1 hc with rfl | hc
    · exact h.2.2.1
    · exact tcolsB_all l _ _ h.2.2.2 c hc
theorem tindsB_all {t : S70} : ∀ (l : List S98) (ids : List Int) (ns : List (List UInt8)), tindsB t ids ns l = true → ∀ c ∈ l, indexB t c = true
  | [], _, _, _, c, hc => by cases hc
  | x :: l, ids, ns, h, c, hc => by
    unfold tindsB at h
    simp only [Bool.and_eq_true] at h
    rcases List.mem_cons.1 hc with rfl | hc
    · exact h.2.2.1
    · exact tindsB_all l _ _ h.2.2.2 c hc
theorem tableB_len {t : S70} (h : tableB t = true) : (tabL t).length ≤ 2000 := by
  unfold tableB at h
  simp only [Bool.and_eq_true, decide_eq_true_eq] at h
  obtain ⟨_, _, _, h4, h5, h6, h7, h8, _⟩ := h
  have a1 := nameB_size h6
  have a2 : (colsL t.f2).length ≤ t.f2.length * 128 := fm_max colL 128 t.f2 (fun c hc => columnB_len (tcolsB_all _ _ _ h7 c hc))
  have a3 : (indsL t.f3).length ≤ t.f3.length * 120 := fm_max indL 120 t.f3 (fun c hc => indexB_len (tindsB_all _ _ _ h8 c hc))
  rw [tabL_len]
  omega
theorem tabsB_all {nx : Int} : ∀ (l : List S70) (last : Int) (ns : List (List UInt8)), tabsB nx last ns l = true → ∀ t ∈ l, tableB t = true
  | [], _, _, _, c, hc => by cases hc
  | x :: l, ids, ns, h, c, hc => by
    unfold tabsB at h
    simp only [Bool.and_eq_true] at h
    rcases List.mem_cons.1 hc with rfl | hc
    · exact h.2.2.2.1
    · exact tabsB_all l _ _ h.2.2.2.2 c hc
theorem schB_len {v : Int} {ts : List S70} {nx : Int} (h : schB v ts nx = true) : (putL v ts nx).length ≤ 10000 ∧ ts.length ≤ 4 := by
  unfold schB at h
  simp only [Bool.and_eq_true, decide_eq_true_eq] at h
  obtain ⟨_, _, _, _, h5, h6⟩ := h
  have a2 : (tabsL ts).length ≤ ts.length * 2000 := fm_max tabL 2000 ts (fun c hc => tableB_len (tabsB_all _ _ _ h6 c hc))
  rw [putL_len]
  omega
def putS (v : Int) (ts : List S70) (nx : Int) : ByteArray := if schB v ts nx = true then sealB (strOfNums (putL v ts nx)) else ⟨#[]⟩
def putE (v : Int) (ts : List S70) (nx : Int) : Int := if schB v ts nx = true then 0 else 3
set_option maxRecDepth 100000 in
set_option maxHeartbeats 16000000 in
theorem dput_calls (v : Int) (ts : List S70) (nx : Int) (hwf : ∀ t ∈ ts, TabWf t) (A : Option Addr) (c : Nat) (w : World) (hG : GL w) (g2 : k70.C w A ts.length ts) :
    Calls Tryd.prog 38 #[.agg #[.int .i64 v, .slice A ts.length c, .int .i64 nx]] w fun e w' => e = .returned (.tuple #[.string (putS v ts nx), .int .i64 (putE v ts nx)]) ∧ Below w.heap.size w w' := by
  have hmay := Lib.hid (fun w' hG' hC' => may_calls v ts nx hwf A c w' hG' hC')
  have HC := Aside0.mk g2
  have big2 := g2.2.1
  have HG := Aside0.mk hG
  clear hG
  cases hs : schB v ts nx with
  | false =>
    have h1 : putS v ts nx = ⟨#[]⟩ := by unfold putS; rw [hs]; rfl
    have h2 : putE v ts nx = 3 := by unfold putE; rw [hs]; rfl
    rw [h1, h2]
    rw [hs] at hmay
    clear h1 h2 hs g2 hwf
    go_enter Tryd.func38, Tryd.ntmps38
    go_wp2_with fail
    refine (hmay.out _ (HG.out.of_below (below_alloc (Below.refl _ _) _)) (Kd.C_below HC.out (below_alloc (Below.refl _ _) _))).mono ?_
    rintro e w1 ⟨rfl, hb1⟩
    go_wp2
    go_ret2
    exact ⟨rfl, below_then (below_alloc (Below.refl _ _) _) (by simp) hb1⟩
  | true =>
    obtain ⟨hl, hl4⟩ := schB_len hs
    have h1 : putS v ts nx = sealB (strOfNums (putL v ts nx)) := by unfold putS; rw [hs]; rfl
    have h2 : putE v ts nx = 0 := by unfold putE; rw [hs]; rfl
    rw [h1, h2]
    rw [hs] at hmay
    have HL := Lib.hid hl
    clear h1 h2 hs g2 hwf hl
    go_enter Tryd.func38, Tryd.ntmps38
    go_wp2_with fail
    refine (hmay.out _ (HG.out.of_below (below_alloc (Below.refl _ _) _)) (Kd.C_below HC.out (below_alloc (Below.refl _ _) _))).mono ?_
    rintro e w1 ⟨rfl, hb1⟩
    have hbx := blk_below (heap_alloc_new w (.cells #[.int .i64 v, .slice A ts.length c, .int .i64 nx] 28)) hb1
    have hlt := lt_of_block hbx
    have H0 := Aside0.mk (below_then (below_then (below_alloc (Below.refl _ w) (.cells #[.int .i64 v, .slice A ts.length c, .int .i64 nx] 28)) (by simp) hb1) (Nat.le_of_lt hlt) (below_alloc (Below.refl _ w1) (.cells #[.slice none 0 0] 112)))
    obtain ⟨g, hgg⟩ : ∃ g, g = w1.heap.size := ⟨_, rfl⟩
    have HS := Aside0.mk (show St 112 w1.heap.size (w1.alloc (.cells #[.slice none 0 0] 112)) (w1.alloc (.cells #[.slice none 0 0] 112)) [] [(w.heap.size, #[.int .i64 v, .slice A ts.length c, .int .i64 nx], 28)] from
      ⟨WB.new 112 w1, Wr.refl _ _, fun p hp => by rw [List.mem_singleton.1 hp]; exact ⟨show (28 : Nat) ≠ 5 by decide, Nat.ne_of_lt hlt, blk_alloc hbx _⟩⟩)
    have hgW : w.heap.size ≤ g := by rw [hgg]; exact Nat.le_of_lt hlt
    rw [← hgg] at HS
    have HGG := Lib.hid hgg
    clear hb1 hbx hlt
    have k1 := HS.out.head (j := 0) (v := .int .i64 v) rfl
    obtain ⟨wS, hwS⟩ : ∃ wS, wS = w1.alloc (.cells #[.slice none 0 0] 112) := ⟨_, rfl⟩
    have HWS := Lib.hid hwS
    clear hgg hwS
    go_wp2_with fail
    rw [← HGG.out, ← HWS.out]
    rw [← HWS.out] at HS H0 k1
    refine (num_calls g _ v _ HS.out.1 (by have := HL.out; rw [putL_len] at this; (try simp only [List.length_append, List.length_nil, e8_len]); omega)).mono ?_
    rintro e w2 ⟨rfl, ha, hb⟩
    have n_ := Aside0.mk (HS.out.step ha hb)
    clear HS ha hb k1
    have HS := n_
    clear n_
    have k1 := HS.out.head (j := 1) (v := .slice A ts.length c) rfl
    go_wp2_with fail
    refine (num_calls g _ ts.length _ HS.out.1 (by have := HL.out; rw [putL_len] at this; (try simp only [List.length_append, List.length_nil, e8_len]); omega)).mono ?_
    rintro e w2 ⟨rfl, ha, hb⟩
    have n_ := Aside0.mk (HS.out.step ha hb)
    clear HS ha hb k1
    have HS := n_
    clear n_
    have k1 := HS.out.head (j := 1) (v := .slice A ts.length c) rfl
    go_wp2_with fail
    obtain ⟨cur, hcur⟩ : ∃ cur, [] ++ e8 (un64 v) ++ e8 (un64 ts.length) = cur := ⟨_, rfl⟩
    rw [hcur] at HS
    have hcl : cur.length = 16 := by rw [← hcur]; rfl
    have HCL := Lib.hid hcl
    have HCU := Lib.hid hcur
    clear hcl hcur k1
    go_loopg [6, 24] ts.length (fun gg _ u24 wr => ∃ kk : Nat, kk ≤ ts.length ∧ ts.length - kk ≤ gg ∧ u24 = .int .i64 kk ∧ Aside0 (St 112 g wS wr (cur ++ tabsL (ts.take kk)) [(w.heap.size, #[.int .i64 v, .slice A ts.length c, .int .i64 nx], 28)]))
    case atStart => exact ⟨0, Nat.zero_le _, by omega, rfl, ⟨by have := HS.out; rw [← List.append_nil cur] at this; exact this⟩⟩
    case round =>
      obtain ⟨kk, hkk, hgk, rfl, HR⟩ := hrel
      clear HS
      by_cases hlt : kk < ts.length
      · have hltz : (kk : Int) < (ts.length : Int) := by omega
        have hBW := H0.out.trans (HR.out.2.1.below.mono hgW)
        obtain ⟨ad, A2, c2, A3, c3, eA, h0, h1, h2, h3, h4, hd2, hcols, hd3, hinds⟩ := at_T70 HC.out (kk : Int) (by omega) (by omega)
        have hx : rd_T70 ts (kk : Int) = ts[kk] := by unfold rd_T70; simp [List.getD, hlt]
        rw [hx] at h0 h1 h2 h3 h4 hd2 hcols hd3 hinds
        simp only [Int.toNat_natCast] at h0 h1 h2 h3 h4
        replace h0 := pw_cell_below hBW h0
        replace h1 := pw_cell_below hBW h1
        replace h2 := pw_cell_below hBW h2
        replace h3 := pw_cell_below hBW h3
        replace h4 := pw_cell_below hBW h4
        cases eA
        have hT := Lib.hid (fm_take tabL ts kk hlt)
        have hE := Lib.hid (fm_le tabL ts kk hlt)
        generalize ts[kk] = t at h0 h1 h2 h3 h4 hd2 hcols hd3 hinds hT hE
        have HI2 := Aside0.mk hcols
        have HI3 := Aside0.mk hinds
        have HS := Aside0.mk (HR.out.box #[.int .i64 t.f0, .string t.f1, .slice A2 t.f2.length c2, .slice A3 t.f3.length c3, .int .i64 t.f4] 70 (by decide))
        clear HR
        clear hx hcols hinds hBW
        go_wp2_with fail
        refine (table_calls w g _ t A2 c2 A3 c3 _ HS.out.1 (H0.out.trans (HS.out.2.1.below.mono hgW)) hgW HI2.out HI3.out (by have a1 := HL.out; have a2 := HCL.out; have a3 := hE.out; rw [putL_len] at a1; rw [List.length_append]; unfold tabsL at *; omega)).mono ?_
        rintro e w2 ⟨rfl, ha, hb⟩
        have n_ := Aside0.mk (HS.out.step ha hb)
        clear HS ha hb h0 h1 h2 h3 h4
        have HS := n_
        clear n_
        go_wp2
        go_roundg (ts.length - (kk + 1))
        case measure => omega
        case rel => exact ⟨kk + 1, by omega, by omega, by go_num, ⟨by have := HS.out.pop; unfold tabsL at this ⊢; rw [hT.out, ← List.append_assoc]; exact this⟩⟩
      · have hltz : ¬ (kk : Int) < (ts.length : Int) := by omega
        have hS := HR.out
        rw [List.take_of_length_le (by omega)] at hS
        have HS := Aside0.mk hS
        clear HR hS
        have k2 := HS.out.head (j := 2) (v := .int .i64 nx) rfl
        go_wp2_with fail
        refine (num_calls g _ nx _ HS.out.1 (by have a1 := HL.out; have a2 := HCL.out; rw [putL_len] at a1; rw [List.length_append]; omega)).mono ?_
        rintro e w2 ⟨rfl, ha, hb⟩
        have n_ := Aside0.mk (HS.out.step ha hb)
        clear HS ha hb k2
        have HS := n_
        clear n_
        have hfin : cur ++ tabsL ts ++ e8 (un64 nx) = putL v ts nx := by rw [← HCU.out]; unfold putL; simp only [List.nil_append, List.append_assoc]
        rw [hfin] at HS
        obtain ⟨bs, hbs⟩ : ∃ bs, bs = putL v ts nx := ⟨_, rfl⟩
        rw [← hbs] at HS HL
        have HBS := Lib.hid hbs
        obtain ⟨x, hv, ho⟩ := HS.out.1
        have c0 := cell_of_one hv
        have hcv := own_string (P := Tryd.prog) Tryd.underlying61 Tryd.underlying5 Tryd.underlying9 ho
        have hz : (strOfNums bs).size = bs.length := strOfNums_size bs
        have hq := Lib.hid (seal_calls (strOfNums bs) w2 (by rw [hz]; have := HL.out; unfold maxLen; omega))
        have HBW := Aside0.mk (H0.out.trans (HS.out.2.1.below.mono hgW))
        clear hfin hbs hv ho HS hz
        go_wp2_with (go_at_call 78; refine hq.out.mono ?_; rintro e w3 ⟨rfl, hb3⟩)
        go_ret2
        refine ⟨by rw [← HBS.out]; rfl, below_then HBW.out HBW.out.size hb3⟩
end Go.Proofs.YtjgomlcdmpcoaaaDoor.H
namespace Go.Proofs.YtjgomlcdmpcoaaaDoor.H
open Go.RowKit Go.Proofs.YtjgomlcdmpcoaaaDoorW.PrintWords Go.Proofs.YtjgomlcdmpcoaaaDoorW.PrintLast Go.Proofs.YtjgomlcdmpcoaaaDoorW.PrintMore
open Go.Proofs.YtjgomlcdmpcoaaaDoor.D Go.Proofs.YtjgomlcdmpcoaaaDoor
set_option linter.unusedVariables false
set_option linter.unusedSimpArgs false
set_option maxHeartbeats 1000000 in
theorem num6_calls (n : Int) (w : World) : Calls Tryd.prog 40 #[.int .i64 n] w fun e w' => e = .returned (.int .i64 n) ∧ w = w' := by
  go_enter Tryd.func40, Tryd.ntmps40
  go_wp2
  go_ret
  exact ⟨rfl, rfl⟩
theorem put0 : putE 0 [] 0 = 0 ∧ (putS 0 [] 0).size = 28 := by
  have h : schB 0 [] 0 = true := rfl
  unfold putE putS
  rw [h, if_pos rfl, if_pos rfl]
  exact ⟨rfl, rfl⟩
theorem name_a : nameB ⟨#[97]⟩ = true := by decide +kernel
theorem name_table : nameB ⟨#[116, 97, 98, 108, 101]⟩ = false := by decide +kernel
theorem nil_C {α : Type} (d : Kd α) (w : World) : Kd.C d w none 0 [] := ⟨rfl, Nat.zero_le _, fun h => absurd h (by omega)⟩
set_option maxRecDepth 100000 in
set_option maxHeartbeats 1000000 in
theorem awake6_calls (w : World) (hG : GL w) : Calls Tryd.prog 35 #[] w fun e w' => e = .returned (.bool true) ∧ Below w.heap.size w w' := by
  have hp := Lib.hid (dput_calls 0 [] 0 (fun t ht => by cases ht) none 0 w hG (nil_C _ _))
  have HG := Aside0.mk hG
  have HN := Lib.hid nameCalls
  obtain ⟨s, hs⟩ : ∃ s, putS 0 [] 0 = s := ⟨_, rfl⟩
  have hz := put0.2
  rw [hs] at hz hp
  rw [put0.1] at hp
  have HZ := Lib.hid hz
  have b1 : ((s.size : Int) == 28) = true := by rw [hz]; rfl
  clear hs hG hz
  have hp' : Calls Tryd.prog 38 #[.agg #[.int .i64 0, .slice none 0 0, .int .i64 0]] w fun e w' => e = .returned (.tuple #[.string s, .int .i64 0]) ∧ Below w.heap.size w w' := hp.out
  have HP := Lib.hid hp'
  have H1 := Lib.hid (fun w => HN.out ⟨#[97]⟩ w)
  have H2 := Lib.hid (fun w => HN.out ⟨#[116, 97, 98, 108, 101]⟩ w)
  rw [name_a] at H1
  rw [name_table] at H2
  clear hp hp' HN
  go_enter Tryd.func35, Tryd.ntmps35
  go_wp2_with fail
  refine HP.out.mono ?_
  rintro e w1 ⟨rfl, hb1⟩
  have HB1 := Aside0.mk hb1
  clear hb1
  go_wp2_with (go_at_call 40; refine (num6_calls _ _).mono ?_; rintro e w' ⟨rfl, rfl⟩)
  refine (H1.out _ (HG.out.of_below HB1.out)).mono ?_
  rintro e w2 ⟨rfl, hb2⟩
  have HB2 := Aside0.mk (below_then HB1.out HB1.out.size hb2)
  clear hb2
  go_wp2_with fail
  refine (H2.out _ (HG.out.of_below HB2.out)).mono ?_
  rintro e w3 ⟨rfl, hb3⟩
  have HB3 := Aside0.mk (below_then HB2.out HB2.out.size hb3)
  clear hb3
  go_wp2
  go_ret
  exact ⟨rfl, HB3.out⟩
end Go.Proofs.YtjgomlcdmpcoaaaDoor.H
