/- Own texts of this session, packed by its program wip/pp/pack.py: lemmas and walks of functions. -/
import Derived.ChangeArms
import Derived.OpenShut
import Derived.Lib.Hide
import Derived.Laws.BitsAllLaws
import Derived.IntWalk
import Derived.OneCell
import Derived.Deep.RegionHeld3
import Derived.Deep.AppendLies
import Derived.Outline
import Derived.Deep.RegionLaw
import Derived.Lib.AppendStr
import Derived.Test.YtjgomlcdmpcoaaaDoorKBack1
import Derived.Test.YtjgomlcdmpcoaaaDoorKBack2
namespace Go.Proofs.YtjgomlcdmpcoaaaDoor.H
open Go.RowKit Go.Proofs.YtjgomlcdmpcoaaaDoorW.PrintWords Go.Proofs.YtjgomlcdmpcoaaaDoorW.PrintLast Go.Proofs.YtjgomlcdmpcoaaaDoorW.PrintMore
open Go.Proofs.YtjgomlcdmpcoaaaDoor.D Go.Proofs.YtjgomlcdmpcoaaaDoor
set_option linter.unusedVariables false
set_option linter.unusedSimpArgs false
abbrev nm (s : ByteArray) : List UInt8 := s.data.toList
def tcolsB (next : Int) : List Int → List (List UInt8) → List S75 → Bool
  | _, _, [] => true
  | ids, names, c :: r => fitsB next ids c.f0 && (!names.contains (nm c.f1) && (columnB c && tcolsB next (ids ++ [c.f0]) (names ++ [nm c.f1]) r))
def tindsB (t : S70) : List Int → List (List UInt8) → List S98 → Bool
  | _, _, [] => true
  | ids, names, x :: r => fitsB t.f4 ids x.f0 && (!names.contains (nm x.f1) && (indexB t x && tindsB t (ids ++ [x.f0]) (names ++ [nm x.f1]) r))
def keyB (t : S70) : Bool := match t.f2 with
  | [] => false
  | c :: _ => c.f3 == 4 && (c.f4 == 4 && c.f5.f0 == 0)
theorem keyB_of (t : S70) (h : 0 < t.f2.length) : keyB t = (t.f2[0].f3 == 4 && (t.f2[0].f4 == 4 && t.f2[0].f5.f0 == 0)) := by
  obtain ⟨f0, f1, f2, f3, f4⟩ := t
  cases f2 with
  | nil => exact absurd h (by simp)
  | cons c r => rfl
def tableB (t : S70) : Bool := decide (1 ≤ t.f4) && (decide (t.f4 ≤ 60000) && (decide (1 ≤ t.f2.length) && (decide (t.f2.length ≤ 8) && (decide (t.f3.length ≤ 4) && (nameB t.f1 && (tcolsB t.f4 [] [] t.f2 && (tindsB t (t.f2.map (·.f0)) [] t.f3 && keyB t)))))))
def ColWf (c : S75) : Prop := -9223372036854775808 ≤ c.f0 ∧ c.f0 < 9223372036854775808 ∧ c.f1.size ≤ maxLen ∧ ValWf c.f5
def IndWf (x : S98) : Prop := -9223372036854775808 ≤ x.f0 ∧ x.f0 < 9223372036854775808 ∧ x.f1.size ≤ maxLen
def TabWf (t : S70) : Prop := t.f1.size ≤ maxLen ∧ (∀ c ∈ t.f2, ColWf c) ∧ ∀ x ∈ t.f3, IndWf x
structure TSt (w wr : World) (H : Nat) (bx : Array Value) (ids : List Int) (cols inds : List (List UInt8)) : Prop where
  lt : w.heap.size < H
  below : Below w.heap.size w wr
  box : wr.heap[w.heap.size]? = some (.cells bx 70 (0, 0))
  idv : wr.heap[H + 1 + 1 + 1]? = some (.cells #[.map (some H)] 158 (0, 0))
  m0 : CntM 3 litI wr H ids.length ids
  m1 : CntM 9 litS wr (H + 1) cols.length cols
  m2 : CntM 9 litS wr (H + 1 + 1) inds.length inds
section
variable {w wr w' : World} {H : Nat} {bx : Array Value} {ids ids' : List Int} {cols cols' inds inds' : List (List UInt8)}
theorem TSt.size (h : TSt w wr H bx ids cols inds) : H + 1 + 1 + 1 < wr.heap.size := lt_of_block h.idv
theorem TSt.step (h : TSt w wr H bx ids cols inds) (hb : Below wr.heap.size wr w') : TSt w w' H bx ids cols inds :=
  ⟨h.lt, below_then h.below h.below.size hb, blk_below h.box hb, blk_below h.idv hb, h.m0.below hb, h.m1.below hb, h.m2.below hb⟩
theorem grown_base {b : Nat} (h : TSt w wr H bx ids cols inds) (hg : wr.grownBy w' (some b)) (hb : w.heap.size ≤ b) : Below w.heap.size w w' :=
  h.below.grown hg h.below.size (fun k e => by injection e with e; omega)
theorem TSt.up0 (h : TSt w wr H bx ids cols inds) (hm : CntM 3 litI w' H ids'.length ids') (hg : wr.grownBy w' (some H)) : TSt w w' H bx ids' cols inds :=
  ⟨h.lt, grown_base h hg (Nat.le_of_lt h.lt), (hg.block _ (lt_of_block h.box) (fun e => by have := h.lt; injection e with e; omega)).trans h.box, (hg.block _ (lt_of_block h.idv) (fun e => by injection e with e; omega)).trans h.idv, hm,
    h.m1.kept hg (fun e => by injection e with e; omega), h.m2.kept hg (fun e => by injection e with e; omega)⟩
theorem TSt.up1 (h : TSt w wr H bx ids cols inds) (hm : CntM 9 litS w' (H + 1) cols'.length cols') (hg : wr.grownBy w' (some (H + 1))) : TSt w w' H bx ids cols' inds :=
  ⟨h.lt, grown_base h hg (by have := h.lt; omega), (hg.block _ (lt_of_block h.box) (fun e => by have := h.lt; injection e with e; omega)).trans h.box, (hg.block _ (lt_of_block h.idv) (fun e => by injection e with e; omega)).trans h.idv,
    h.m0.kept hg (fun e => by injection e with e; omega), hm, h.m2.kept hg (fun e => by injection e with e; omega)⟩
theorem TSt.up2 (h : TSt w wr H bx ids cols inds) (hm : CntM 9 litS w' (H + 1 + 1) inds'.length inds') (hg : wr.grownBy w' (some (H + 1 + 1))) : TSt w w' H bx ids cols inds' :=
  ⟨h.lt, grown_base h hg (by have := h.lt; omega), (hg.block _ (lt_of_block h.box) (fun e => by have := h.lt; injection e with e; omega)).trans h.box, (hg.block _ (lt_of_block h.idv) (fun e => by injection e with e; omega)).trans h.idv,
    h.m0.kept hg (fun e => by injection e with e; omega), h.m1.kept hg (fun e => by injection e with e; omega), hm⟩
theorem TSt.new {w1 : World} (hb : Below w.heap.size w w1) (hbox : w1.heap[w.heap.size]? = some (.cells bx 70 (0, 0))) :
    TSt w ((((w1.alloc (.map #[] 0)).alloc (.map #[] 0)).alloc (.map #[] 0)).alloc (.cells #[.map (some w1.heap.size)] 158)) w1.heap.size bx [] [] [] := by
  have a1 := below_alloc (Below.refl _ w1) (.map #[] 0)
  have a2 := below_alloc (Below.refl _ (w1.alloc (.map #[] 0))) (.map #[] 0)
  have a3 := below_alloc (Below.refl _ ((w1.alloc (.map #[] 0)).alloc (.map #[] 0))) (.map #[] 0)
  have a4 := below_alloc (Below.refl _ (((w1.alloc (.map #[] 0)).alloc (.map #[] 0)).alloc (.map #[] 0))) (.cells #[.map (some w1.heap.size)] 158)
  have s1 : (w1.alloc (.map #[] 0)).heap.size = w1.heap.size + 1 := by simp
  have s2 : ((w1.alloc (.map #[] 0)).alloc (.map #[] 0)).heap.size = w1.heap.size + 1 + 1 := by simp
  have s3 : (((w1.alloc (.map #[] 0)).alloc (.map #[] 0)).alloc (.map #[] 0)).heap.size = w1.heap.size + 1 + 1 + 1 := by simp
  refine ⟨lt_of_block hbox, ?_, ?_, ?_, ?_, ?_, ?_⟩
  · exact below_then (below_then (below_then (below_then hb hb.size a1) (by rw [s1]; have := hb.size; omega) a2) (by rw [s2]; have := hb.size; omega) a3) (by rw [s3]; have := hb.size; omega) a4
  · exact blk_below (blk_below (blk_below (blk_below hbox a1) a2) a3) a4
  · have := heap_alloc_new (((w1.alloc (.map #[] 0)).alloc (.map #[] 0)).alloc (.map #[] 0)) (.cells #[.map (some w1.heap.size)] 158)
    rw [s3] at this
    exact this
  · exact (((CntM.new 3 litI w1).below a2).below a3).below a4
  · have := CntM.new 9 litS (w1.alloc (.map #[] 0))
    rw [s1] at this
    exact (this.below a3).below a4
  · have := CntM.new 9 litS ((w1.alloc (.map #[] 0)).alloc (.map #[] 0))
    rw [s2] at this
    exact this.below a4
end
set_option maxRecDepth 100000 in
set_option maxHeartbeats 16000000 in
theorem table_may (t : S70) (hwf : TabWf t) (A2 : Option Addr) (c2 : Nat) (A3 : Option Addr) (c3 : Nat) (w : World) (hG : GL w)
    (hc2 : t.f2.length ≤ c2) (g2 : k75.C w A2 t.f2.length t.f2) (hc3 : t.f3.length ≤ c3) (g3 : k98.C w A3 t.f3.length t.f3) :
    Calls Tryd.prog 74 #[.agg #[.int .i64 t.f0, .string t.f1, .slice A2 t.f2.length c2, .slice A3 t.f3.length c3, .int .i64 t.f4]] w fun e w' => e = .returned (.bool (tableB t)) ∧ Below w.heap.size w w' := by
  have HN := Lib.hid nameCalls
  have HG := Aside0.mk hG
  have HC := Aside0.mk g2
  have HX := Aside0.mk g3
  have HW := Aside0.mk hwf
  have hmm := @run_makeMap Tryd.prog
  have hmf : ∀ (fn : Fn) (first cap : Array Value) (w : World), (Instr.makeFunc fn first cap).run Tryd.prog w = .ok (.func fn first cap) w := fun _ _ _ _ => rfl
  have big2 := g2.2.1
  have big3 := g3.2.1
  have hI : tableB t = (decide (1 ≤ t.f4) && (decide (t.f4 ≤ 60000) && (decide (1 ≤ t.f2.length) && (decide (t.f2.length ≤ 8) && (decide (t.f3.length ≤ 4) && (nameB t.f1 && (tcolsB t.f4 [] [] t.f2 && (tindsB t (t.f2.map (·.f0)) [] t.f3 && keyB t)))))))) := rfl
  generalize tableB t = R at hI ⊢
  obtain ⟨nb, hb⟩ : ∃ nb, nameB t.f1 = nb := ⟨_, rfl⟩
  rw [hb] at hI
  have HNB := Lib.hid hb
  clear hb hG g2 g3 hwf
  have E1 : decide (t.f4 < 1) = !decide (1 ≤ t.f4) := by by_cases h : 1 ≤ t.f4 <;> simp [h] <;> omega
  have E2 : decide (60000 < t.f4) = !decide (t.f4 ≤ 60000) := by by_cases h : t.f4 ≤ 60000 <;> simp [h] <;> omega
  have E3 : decide ((t.f2.length : Int) < 1) = !decide (1 ≤ t.f2.length) := by by_cases h : 1 ≤ t.f2.length <;> simp [h] <;> omega
  have E4 : decide (8 < (t.f2.length : Int)) = !decide (t.f2.length ≤ 8) := by by_cases h : t.f2.length ≤ 8 <;> simp [h] <;> omega
  have E5 : decide (4 < (t.f3.length : Int)) = !decide (t.f3.length ≤ 4) := by by_cases h : t.f3.length ≤ 4 <;> simp [h] <;> omega
  cases q1 : decide (1 ≤ t.f4) with
  | false =>
    rw [q1] at E1 hI
    simp only [Bool.not_false, Bool.not_true] at E1
    have HI := Lib.hid hI
    clear hI q1 E2 E3 E4 E5
    go_enter Tryd.func74, Tryd.ntmps74
    go_wp2
    go_ret
    exact ⟨by rw [HI.out]; rfl, below_alloc (Below.refl _ _) _⟩
  | true =>
    rw [q1] at E1 hI
    cases q2 : decide (t.f4 ≤ 60000) with
    | false =>
      rw [q2] at E2 hI
      simp only [Bool.not_false, Bool.not_true] at E1 E2
      have HI := Lib.hid hI
      clear hI q1 q2 E3 E4 E5
      go_enter Tryd.func74, Tryd.ntmps74
      go_wp2
      go_ret
      exact ⟨by rw [HI.out]; rfl, below_alloc (Below.refl _ _) _⟩
    | true =>
      rw [q2] at E2 hI
      cases q3 : decide (1 ≤ t.f2.length) with
      | false =>
        rw [q3] at E3 hI
        simp only [Bool.not_false, Bool.not_true] at E1 E2 E3
        have HI := Lib.hid hI
        clear hI q1 q2 q3 E4 E5
        go_enter Tryd.func74, Tryd.ntmps74
        go_wp2
        go_ret
        exact ⟨by rw [HI.out]; rfl, below_alloc (Below.refl _ _) _⟩
      | true =>
        rw [q3] at E3 hI
        cases q4 : decide (t.f2.length ≤ 8) with
        | false =>
          rw [q4] at E4 hI
          simp only [Bool.not_false, Bool.not_true] at E1 E2 E3 E4
          have HI := Lib.hid hI
          clear hI q1 q2 q3 q4 E5
          go_enter Tryd.func74, Tryd.ntmps74
          go_wp2
          go_ret
          exact ⟨by rw [HI.out]; rfl, below_alloc (Below.refl _ _) _⟩
        | true =>
          rw [q4] at E4 hI
          cases q5 : decide (t.f3.length ≤ 4) with
          | false =>
            rw [q5] at E5 hI
            simp only [Bool.not_false, Bool.not_true] at E1 E2 E3 E4 E5
            have HI := Lib.hid hI
            clear hI q1 q2 q3 q4 q5
            go_enter Tryd.func74, Tryd.ntmps74
            go_wp2
            go_ret
            exact ⟨by rw [HI.out]; rfl, below_alloc (Below.refl _ _) _⟩
          | true =>
            rw [q5] at E5 hI
            simp only [Bool.not_false, Bool.not_true] at E1 E2 E3 E4 E5
            simp only [Bool.true_and] at hI
            have z3 := of_decide_eq_true q3
            have z4 := of_decide_eq_true q4
            have z5 := of_decide_eq_true q5
            clear q1 q2 q3 q4 q5
            cases nb with
            | false =>
              have HI := Lib.hid hI
              clear hI
              go_enter Tryd.func74, Tryd.ntmps74
              go_wp2_with (go_at_call 33; refine (HN.out _ _ (HG.out.of_below (by repeat (first | exact Below.refl _ _ | apply below_alloc)))).mono ?_; rintro e w1 ⟨rfl, hb1⟩; rw [HNB.out])
              go_ret
              exact ⟨by rw [HI.out]; rfl, below_then (below_alloc (Below.refl _ _) _) (by simp) hb1⟩
            | true =>
              rw [Bool.true_and] at hI
              have HI := Lib.hid hI
              clear hI
              go_enter Tryd.func74, Tryd.ntmps74
              go_wp2_with fail
              refine (HN.out _ _ (HG.out.of_below (by repeat (first | exact Below.refl _ _ | apply below_alloc)))).mono ?_
              rintro e w1 ⟨rfl, hb1⟩
              rw [HNB.out]
              have hbx := blk_below (heap_alloc_new w (.cells #[.int .i64 t.f0, .string t.f1, .slice A2 t.f2.length c2, .slice A3 t.f3.length c3, .int .i64 t.f4] 70)) hb1
              have hbw := below_then (below_alloc (Below.refl _ w) (.cells #[.int .i64 t.f0, .string t.f1, .slice A2 t.f2.length c2, .slice A3 t.f3.length c3, .int .i64 t.f4] 70)) (by simp) hb1
              have HT := Aside0.mk (TSt.new hbw hbx)
              have kb := (Go.Proofs.YtjgomlcdmpcoaaaDoorW.PrintWords.blk_cell HT.out.box 2).trans (rfl : _ = some (Value.slice A2 t.f2.length c2))
              have hsz : w.heap.size < w1.heap.size := lt_of_block hbx
              clear hb1 hbx hbw E1 E2 E3 E4 E5
              go_wp2_with fail
              go_loopg [8, 51] t.f2.length (fun gg _ u wr => ∃ kk : Nat, kk ≤ t.f2.length ∧ t.f2.length - kk ≤ gg ∧ u = .int .i64 kk ∧ Aside0 (TSt w wr w1.heap.size #[.int .i64 t.f0, .string t.f1, .slice A2 t.f2.length c2, .slice A3 t.f3.length c3, .int .i64 t.f4] ((t.f2.take kk).map fun c => c.f0) ((t.f2.take kk).map fun c => nm c.f1) []) ∧ Aside0 (tcolsB t.f4 [] [] t.f2 = tcolsB t.f4 ((t.f2.take kk).map fun c => c.f0) ((t.f2.take kk).map fun c => nm c.f1) (t.f2.drop kk)))
              case atStart => exact ⟨0, Nat.zero_le _, by omega, rfl, ⟨by first | exact HT.out | (simpa using HT.out)⟩, ⟨by simp⟩⟩
              case round =>
                obtain ⟨kk, hkk, hgg, rfl, HT', HCI'⟩ := hrel
                clear HT kb
                by_cases hlt : kk < t.f2.length
                · have hltz : (kk : Int) < (t.f2.length : Int) := by omega
                  have hszr : w1.heap.size + 1 + 1 + 1 < wr.heap.size := HT'.out.size
                  obtain ⟨ad, eA, h0, h1, h2, h3, h4, h5, h6, h7, h8⟩ := at_T75 (Kd.C_below HC.out HT'.out.below) (kk : Int) (by omega) (by omega)
                  have hx : rd_T75 t.f2 (kk : Int) = t.f2[kk] := by unfold rd_T75; simp [List.getD, hlt]
                  rw [hx] at h0 h1 h2 h3 h4 h5 h6 h7 h8
                  simp only [Int.toNat_natCast] at h0 h1 h2 h3 h4 h5 h6 h7 h8
                  cases eA
                  have hW := HW.out.2.1 _ (List.getElem_mem hlt)
                  have hd : t.f2.drop kk = t.f2[kk] :: t.f2.drop (kk + 1) := List.drop_eq_getElem_cons hlt
                  have htk : t.f2.take (kk + 1) = t.f2.take kk ++ [t.f2[kk]] := List.take_succ_eq_append_getElem hlt
                  rw [hd] at HCI'
                  generalize t.f2[kk] = c at h0 h1 h2 h3 h4 h5 h6 h7 h8 hW hd htk HCI'
                  have HWC := Lib.hid hW
                  obtain ⟨ids, hids⟩ : ∃ ids, ((t.f2.take kk).map fun c => c.f0) = ids := ⟨_, rfl⟩
                  obtain ⟨nsC, hns⟩ : ∃ l_, ((t.f2.take kk).map fun c => nm c.f1) = l_ := ⟨_, rfl⟩
                  have hTI := Lib.hid (show ((t.f2.take (kk + 1)).map fun c => c.f0) = ids ++ [c.f0] by rw [htk, ← hids]; simp)
                  have hTN := Lib.hid (show ((t.f2.take (kk + 1)).map fun c => nm c.f1) = nsC ++ [nm c.f1] by rw [htk, ← hns]; simp)
                  rw [hids, hns] at HT' HCI'
                  have hil : ids.length < 50 := by rw [← hids]; simp; omega
                  have hnl : nsC.length < 50 := by rw [← hns]; simp; omega
                  have hst : tcolsB t.f4 ids nsC (c :: t.f2.drop (kk + 1)) = (fitsB t.f4 ids c.f0 && (!nsC.contains (nm c.f1) && (columnB c && tcolsB t.f4 (ids ++ [c.f0]) (nsC ++ [nm c.f1]) (t.f2.drop (kk + 1))))) := rfl
                  have HCI := Lib.hid (HCI'.out.trans hst)
                  have HKS := Lib.hid (keyS hW.2.2.1)
                  have HTB := Aside0.mk (HT'.out.step (below_alloc (Below.refl _ wr) (.cells #[.int .i64 c.f0, .string c.f1, .int .i64 c.f2, .int .i64 c.f3, .int .i64 c.f4, .int .i64 c.f5.f0, .int .i64 c.f5.f1, .int .u64 c.f5.f2, .string c.f5.f3] 75)))
                  clear hx hW hd htk hids hns hst HCI' HT'
                  cases hf : fitsB t.f4 ids c.f0 with
                  | false =>
                    cases hq : nsC.contains (nm c.f1) with
                    | false =>
                      have e0 := count_none hq
                      have e1 : _ = (1 : Int) := count_one e0
                      have hrun := HTB.out.m1.look0 lawS Tryd.underlying108 HKS.out e0
                      have E0 := Lib.hid e0
                      have E1 := Lib.hid e1
                      have HQ := Lib.hid hq
                      have HF := Lib.hid hf
                      clear e0 e1 hq hf
                      go_wp2_with (first | (at_mapUpdate; refine wpList_count rfl _ _ _ 108 rfl lawS Tryd.underlying108 rfl HTB.out.m1 (by omega) (by omega) _ (nm c.f1) rfl HKS.out (injS _) (isS _) _ (by rw [E0.out] <;> rfl) rfl ?_; intro w2 hm2 hg2; have T2 := Aside0.mk (HTB.out.up1 hm2.snoc hg2); have B2_ := Aside0.mk ((hg2.block _ (by simp) (fun e => by injection e with e; have := hszr; omega)).trans (heap_alloc_new wr (.cells #[.int .i64 c.f0, .string c.f1, .int .i64 c.f2, .int .i64 c.f3, .int .i64 c.f4, .int .i64 c.f5.f0, .int .i64 c.f5.f1, .int .u64 c.f5.f2, .string c.f5.f3] 75))); have k0_ := (Go.Proofs.YtjgomlcdmpcoaaaDoorW.PrintWords.blk_cell B2_.out 0).trans (rfl : _ = some (Value.int .i64 c.f0)); clear hrun hm2 hg2) | (go_at_call 123; refine (fits_calls c.f0 t.f4 _ _ _ _ w.heap.size (w1.heap.size + 1 + 1 + 1) w1.heap.size ids w2 HWC.out.1 HWC.out.2.1 T2.out.box T2.out.idv T2.out.m0 (by omega)).mono ?_; rintro e w3 ⟨rfl, hm3, hg3⟩; rw [HF.out]; have T3 := Aside0.mk (T2.out.up0 hm3 hg3); have B3_ := Aside0.mk ((hg3.block _ (lt_of_block B2_.out) (fun e => by injection e with e; have := hszr; omega)).trans B2_.out); clear k0_; skip; clear hm3 hg3))
                      go_ret
                      exact ⟨by rw [HI.out, HCI.out, HF.out]; rfl, T3.out.below⟩
                    | true =>
                      obtain ⟨cq, e0, cq1, cq2'⟩ := count_some hq
                      have cq2 : cq ≤ 100 := by omega
                      have cq3 : 1 < cq + 1 := by omega
                      have e1 := count_one e0
                      clear cq2'
                      have hrun := HTB.out.m1.look0 lawS Tryd.underlying108 HKS.out e0
                      have E0 := Lib.hid e0
                      have E1 := Lib.hid e1
                      have HQ := Lib.hid hq
                      have HF := Lib.hid hf
                      clear e0 e1 hq hf
                      go_wp2_with (first | (at_mapUpdate; refine wpList_count rfl _ _ _ 108 rfl lawS Tryd.underlying108 rfl HTB.out.m1 (by omega) (by omega) _ (nm c.f1) rfl HKS.out (injS _) (isS _) _ (by rw [E0.out] <;> rfl) rfl ?_; intro w2 hm2 hg2; have T2 := Aside0.mk (HTB.out.up1 hm2.snoc hg2); have B2_ := Aside0.mk ((hg2.block _ (by simp) (fun e => by injection e with e; have := hszr; omega)).trans (heap_alloc_new wr (.cells #[.int .i64 c.f0, .string c.f1, .int .i64 c.f2, .int .i64 c.f3, .int .i64 c.f4, .int .i64 c.f5.f0, .int .i64 c.f5.f1, .int .u64 c.f5.f2, .string c.f5.f3] 75))); have k0_ := (Go.Proofs.YtjgomlcdmpcoaaaDoorW.PrintWords.blk_cell B2_.out 0).trans (rfl : _ = some (Value.int .i64 c.f0)); clear hrun hm2 hg2) | (go_at_call 123; refine (fits_calls c.f0 t.f4 _ _ _ _ w.heap.size (w1.heap.size + 1 + 1 + 1) w1.heap.size ids w2 HWC.out.1 HWC.out.2.1 T2.out.box T2.out.idv T2.out.m0 (by omega)).mono ?_; rintro e w3 ⟨rfl, hm3, hg3⟩; rw [HF.out]; have T3 := Aside0.mk (T2.out.up0 hm3 hg3); have B3_ := Aside0.mk ((hg3.block _ (lt_of_block B2_.out) (fun e => by injection e with e; have := hszr; omega)).trans B2_.out); clear k0_; skip; clear hm3 hg3))
                      go_ret
                      exact ⟨by rw [HI.out, HCI.out, HF.out]; rfl, T3.out.below⟩
                  | true =>
                    cases hq : nsC.contains (nm c.f1) with
                    | true =>
                      obtain ⟨cq, e0, cq1, cq2'⟩ := count_some hq
                      have cq2 : cq ≤ 100 := by omega
                      have cq3 : 1 < cq + 1 := by omega
                      have e1 := count_one e0
                      clear cq2'
                      have hrun := HTB.out.m1.look0 lawS Tryd.underlying108 HKS.out e0
                      have E0 := Lib.hid e0
                      have E1 := Lib.hid e1
                      have HQ := Lib.hid hq
                      have HF := Lib.hid hf
                      clear e0 e1 hq hf
                      go_wp2_with (first | (at_mapUpdate; refine wpList_count rfl _ _ _ 108 rfl lawS Tryd.underlying108 rfl HTB.out.m1 (by omega) (by omega) _ (nm c.f1) rfl HKS.out (injS _) (isS _) _ (by rw [E0.out] <;> rfl) rfl ?_; intro w2 hm2 hg2; have T2 := Aside0.mk (HTB.out.up1 hm2.snoc hg2); have B2_ := Aside0.mk ((hg2.block _ (by simp) (fun e => by injection e with e; have := hszr; omega)).trans (heap_alloc_new wr (.cells #[.int .i64 c.f0, .string c.f1, .int .i64 c.f2, .int .i64 c.f3, .int .i64 c.f4, .int .i64 c.f5.f0, .int .i64 c.f5.f1, .int .u64 c.f5.f2, .string c.f5.f3] 75))); have k0_ := (Go.Proofs.YtjgomlcdmpcoaaaDoorW.PrintWords.blk_cell B2_.out 0).trans (rfl : _ = some (Value.int .i64 c.f0)); clear hrun hm2 hg2) | (go_at_call 123; refine (fits_calls c.f0 t.f4 _ _ _ _ w.heap.size (w1.heap.size + 1 + 1 + 1) w1.heap.size ids w2 HWC.out.1 HWC.out.2.1 T2.out.box T2.out.idv T2.out.m0 (by omega)).mono ?_; rintro e w3 ⟨rfl, hm3, hg3⟩; rw [HF.out]; have T3 := Aside0.mk (T2.out.up0 hm3 hg3); have B3_ := Aside0.mk ((hg3.block _ (lt_of_block B2_.out) (fun e => by injection e with e; have := hszr; omega)).trans B2_.out); clear k0_; have k0_ := (Go.Proofs.YtjgomlcdmpcoaaaDoorW.PrintWords.blk_cell B3_.out 0).trans (rfl : _ = some (Value.int .i64 c.f0)); have k1_ := (Go.Proofs.YtjgomlcdmpcoaaaDoorW.PrintWords.blk_cell B3_.out 1).trans (rfl : _ = some (Value.string c.f1)); have k2_ := (Go.Proofs.YtjgomlcdmpcoaaaDoorW.PrintWords.blk_cell B3_.out 2).trans (rfl : _ = some (Value.int .i64 c.f2)); have k3_ := (Go.Proofs.YtjgomlcdmpcoaaaDoorW.PrintWords.blk_cell B3_.out 3).trans (rfl : _ = some (Value.int .i64 c.f3)); have k4_ := (Go.Proofs.YtjgomlcdmpcoaaaDoorW.PrintWords.blk_cell B3_.out 4).trans (rfl : _ = some (Value.int .i64 c.f4)); have k5_ := (Go.Proofs.YtjgomlcdmpcoaaaDoorW.PrintWords.blk_cell B3_.out 5).trans (rfl : _ = some (Value.int .i64 c.f5.f0)); have k6_ := (Go.Proofs.YtjgomlcdmpcoaaaDoorW.PrintWords.blk_cell B3_.out 6).trans (rfl : _ = some (Value.int .i64 c.f5.f1)); have k7_ := (Go.Proofs.YtjgomlcdmpcoaaaDoorW.PrintWords.blk_cell B3_.out 7).trans (rfl : _ = some (Value.int .u64 c.f5.f2)); have k8_ := (Go.Proofs.YtjgomlcdmpcoaaaDoorW.PrintWords.blk_cell B3_.out 8).trans (rfl : _ = some (Value.string c.f5.f3)); have hrun3 := T3.out.m1.look0 lawS Tryd.underlying108 HKS.out E1.out; clear hm3 hg3))
                      go_ret
                      exact ⟨by rw [HI.out, HCI.out, HF.out, HQ.out]; rfl, T3.out.below⟩
                    | false =>
                      cases hb : columnB c with
                      | false =>
                        have e0 := count_none hq
                        have e1 : _ = (1 : Int) := count_one e0
                        have hrun := HTB.out.m1.look0 lawS Tryd.underlying108 HKS.out e0
                        have E0 := Lib.hid e0
                        have E1 := Lib.hid e1
                        have HQ := Lib.hid hq
                        have HF := Lib.hid hf
                        have HB := Lib.hid hb
                        clear e0 e1 hq hf hb
                        go_wp2_with (first | (at_mapUpdate; refine wpList_count rfl _ _ _ 108 rfl lawS Tryd.underlying108 rfl HTB.out.m1 (by omega) (by omega) _ (nm c.f1) rfl HKS.out (injS _) (isS _) _ (by rw [E0.out] <;> rfl) rfl ?_; intro w2 hm2 hg2; have T2 := Aside0.mk (HTB.out.up1 hm2.snoc hg2); have B2_ := Aside0.mk ((hg2.block _ (by simp) (fun e => by injection e with e; have := hszr; omega)).trans (heap_alloc_new wr (.cells #[.int .i64 c.f0, .string c.f1, .int .i64 c.f2, .int .i64 c.f3, .int .i64 c.f4, .int .i64 c.f5.f0, .int .i64 c.f5.f1, .int .u64 c.f5.f2, .string c.f5.f3] 75))); have k0_ := (Go.Proofs.YtjgomlcdmpcoaaaDoorW.PrintWords.blk_cell B2_.out 0).trans (rfl : _ = some (Value.int .i64 c.f0)); clear hrun hm2 hg2) | (go_at_call 123; refine (fits_calls c.f0 t.f4 _ _ _ _ w.heap.size (w1.heap.size + 1 + 1 + 1) w1.heap.size ids w2 HWC.out.1 HWC.out.2.1 T2.out.box T2.out.idv T2.out.m0 (by omega)).mono ?_; rintro e w3 ⟨rfl, hm3, hg3⟩; rw [HF.out]; have T3 := Aside0.mk (T2.out.up0 hm3 hg3); have B3_ := Aside0.mk ((hg3.block _ (lt_of_block B2_.out) (fun e => by injection e with e; have := hszr; omega)).trans B2_.out); clear k0_; have k0_ := (Go.Proofs.YtjgomlcdmpcoaaaDoorW.PrintWords.blk_cell B3_.out 0).trans (rfl : _ = some (Value.int .i64 c.f0)); have k1_ := (Go.Proofs.YtjgomlcdmpcoaaaDoorW.PrintWords.blk_cell B3_.out 1).trans (rfl : _ = some (Value.string c.f1)); have k2_ := (Go.Proofs.YtjgomlcdmpcoaaaDoorW.PrintWords.blk_cell B3_.out 2).trans (rfl : _ = some (Value.int .i64 c.f2)); have k3_ := (Go.Proofs.YtjgomlcdmpcoaaaDoorW.PrintWords.blk_cell B3_.out 3).trans (rfl : _ = some (Value.int .i64 c.f3)); have k4_ := (Go.Proofs.YtjgomlcdmpcoaaaDoorW.PrintWords.blk_cell B3_.out 4).trans (rfl : _ = some (Value.int .i64 c.f4)); have k5_ := (Go.Proofs.YtjgomlcdmpcoaaaDoorW.PrintWords.blk_cell B3_.out 5).trans (rfl : _ = some (Value.int .i64 c.f5.f0)); have k6_ := (Go.Proofs.YtjgomlcdmpcoaaaDoorW.PrintWords.blk_cell B3_.out 6).trans (rfl : _ = some (Value.int .i64 c.f5.f1)); have k7_ := (Go.Proofs.YtjgomlcdmpcoaaaDoorW.PrintWords.blk_cell B3_.out 7).trans (rfl : _ = some (Value.int .u64 c.f5.f2)); have k8_ := (Go.Proofs.YtjgomlcdmpcoaaaDoorW.PrintWords.blk_cell B3_.out 8).trans (rfl : _ = some (Value.string c.f5.f3)); have hrun3 := T3.out.m1.look0 lawS Tryd.underlying108 HKS.out E1.out; clear hm3 hg3) | (go_at_call 124; refine (column_calls' c HWC.out.2.2.2 w3 (HG.out.of_below T3.out.below)).mono ?_; rintro e w4 ⟨rfl, hb4⟩; rw [HB.out]; have T4 := Aside0.mk (T3.out.step hb4); clear hb4))
                        go_ret
                        exact ⟨by rw [HI.out, HCI.out, HF.out, HQ.out, HB.out]; rfl, T4.out.below⟩
                      | true =>
                        have e0 := count_none hq
                        have e1 : _ = (1 : Int) := count_one e0
                        have hrun := HTB.out.m1.look0 lawS Tryd.underlying108 HKS.out e0
                        have E0 := Lib.hid e0
                        have E1 := Lib.hid e1
                        have HQ := Lib.hid hq
                        have HF := Lib.hid hf
                        have HB := Lib.hid hb
                        clear e0 e1 hq hf hb
                        go_wp2_with (first | (at_mapUpdate; refine wpList_count rfl _ _ _ 108 rfl lawS Tryd.underlying108 rfl HTB.out.m1 (by omega) (by omega) _ (nm c.f1) rfl HKS.out (injS _) (isS _) _ (by rw [E0.out] <;> rfl) rfl ?_; intro w2 hm2 hg2; have T2 := Aside0.mk (HTB.out.up1 hm2.snoc hg2); have B2_ := Aside0.mk ((hg2.block _ (by simp) (fun e => by injection e with e; have := hszr; omega)).trans (heap_alloc_new wr (.cells #[.int .i64 c.f0, .string c.f1, .int .i64 c.f2, .int .i64 c.f3, .int .i64 c.f4, .int .i64 c.f5.f0, .int .i64 c.f5.f1, .int .u64 c.f5.f2, .string c.f5.f3] 75))); have k0_ := (Go.Proofs.YtjgomlcdmpcoaaaDoorW.PrintWords.blk_cell B2_.out 0).trans (rfl : _ = some (Value.int .i64 c.f0)); clear hrun hm2 hg2) | (go_at_call 123; refine (fits_calls c.f0 t.f4 _ _ _ _ w.heap.size (w1.heap.size + 1 + 1 + 1) w1.heap.size ids w2 HWC.out.1 HWC.out.2.1 T2.out.box T2.out.idv T2.out.m0 (by omega)).mono ?_; rintro e w3 ⟨rfl, hm3, hg3⟩; rw [HF.out]; have T3 := Aside0.mk (T2.out.up0 hm3 hg3); have B3_ := Aside0.mk ((hg3.block _ (lt_of_block B2_.out) (fun e => by injection e with e; have := hszr; omega)).trans B2_.out); clear k0_; have k0_ := (Go.Proofs.YtjgomlcdmpcoaaaDoorW.PrintWords.blk_cell B3_.out 0).trans (rfl : _ = some (Value.int .i64 c.f0)); have k1_ := (Go.Proofs.YtjgomlcdmpcoaaaDoorW.PrintWords.blk_cell B3_.out 1).trans (rfl : _ = some (Value.string c.f1)); have k2_ := (Go.Proofs.YtjgomlcdmpcoaaaDoorW.PrintWords.blk_cell B3_.out 2).trans (rfl : _ = some (Value.int .i64 c.f2)); have k3_ := (Go.Proofs.YtjgomlcdmpcoaaaDoorW.PrintWords.blk_cell B3_.out 3).trans (rfl : _ = some (Value.int .i64 c.f3)); have k4_ := (Go.Proofs.YtjgomlcdmpcoaaaDoorW.PrintWords.blk_cell B3_.out 4).trans (rfl : _ = some (Value.int .i64 c.f4)); have k5_ := (Go.Proofs.YtjgomlcdmpcoaaaDoorW.PrintWords.blk_cell B3_.out 5).trans (rfl : _ = some (Value.int .i64 c.f5.f0)); have k6_ := (Go.Proofs.YtjgomlcdmpcoaaaDoorW.PrintWords.blk_cell B3_.out 6).trans (rfl : _ = some (Value.int .i64 c.f5.f1)); have k7_ := (Go.Proofs.YtjgomlcdmpcoaaaDoorW.PrintWords.blk_cell B3_.out 7).trans (rfl : _ = some (Value.int .u64 c.f5.f2)); have k8_ := (Go.Proofs.YtjgomlcdmpcoaaaDoorW.PrintWords.blk_cell B3_.out 8).trans (rfl : _ = some (Value.string c.f5.f3)); have hrun3 := T3.out.m1.look0 lawS Tryd.underlying108 HKS.out E1.out; clear hm3 hg3) | (go_at_call 124; refine (column_calls' c HWC.out.2.2.2 w3 (HG.out.of_below T3.out.below)).mono ?_; rintro e w4 ⟨rfl, hb4⟩; rw [HB.out]; have T4 := Aside0.mk (T3.out.step hb4); clear hb4))
                        go_roundg (t.f2.length - (kk + 1))
                        case measure => omega
                        case rel =>
                          refine ⟨kk + 1, by omega, by omega, by go_num, ⟨?_, ?_⟩⟩
                          · rw [hTI.out, hTN.out]; exact T4
                          · refine ⟨?_⟩
                            rw [HCI.out, HF.out, HQ.out, HB.out, hTI.out, hTN.out]; rfl
                · have hltz : ¬ (kk : Int) < (t.f2.length : Int) := by omega
                  have hkd : t.f2.drop kk = [] := List.drop_eq_nil_of_le (by omega)
                  have hkt : t.f2.take kk = t.f2 := List.take_of_length_le (by omega)
                  rw [hkd, hkt] at HCI'
                  rw [hkt] at HT'
                  have HT := HT'
                  clear HT' hkd hkt
                  have HC1 := Lib.hid (show tcolsB t.f4 [] [] t.f2 = true from HCI'.out)
                  clear HCI'
                  have kb2 := (Go.Proofs.YtjgomlcdmpcoaaaDoorW.PrintWords.blk_cell HT.out.box 3).trans (rfl : _ = some (Value.slice A3 t.f3.length c3))
                  obtain ⟨wo, hwo⟩ : ∃ wo : World, wo = wr := ⟨_, rfl⟩
                  subst hwo
                  go_wp2_with fail
                  go_loopg [10, 81] t.f3.length (fun gg _ u wr => ∃ kk : Nat, kk ≤ t.f3.length ∧ t.f3.length - kk ≤ gg ∧ u = .int .i64 kk ∧ Aside0 (TSt w wr w1.heap.size #[.int .i64 t.f0, .string t.f1, .slice A2 t.f2.length c2, .slice A3 t.f3.length c3, .int .i64 t.f4] (t.f2.map (fun c => c.f0) ++ (t.f3.take kk).map fun c => c.f0) (t.f2.map fun c => nm c.f1) ((t.f3.take kk).map fun c => nm c.f1)) ∧ Aside0 (tindsB t (t.f2.map (·.f0)) [] t.f3 = tindsB t (t.f2.map (fun c => c.f0) ++ (t.f3.take kk).map fun c => c.f0) ((t.f3.take kk).map fun c => nm c.f1) (t.f3.drop kk)))
                  case atStart => exact ⟨0, Nat.zero_le _, by omega, rfl, ⟨by first | exact HT.out | (simpa using HT.out)⟩, ⟨by simp⟩⟩
                  case round =>
                    obtain ⟨kk, hkk, hgg, rfl, HT', HCI'⟩ := hrel
                    clear HT kb2
                    by_cases hlt : kk < t.f3.length
                    · have hltz : (kk : Int) < (t.f3.length : Int) := by omega
                      have hszr : w1.heap.size + 1 + 1 + 1 < wr.heap.size := HT'.out.size
                      have hBW := HT'.out.below
                      obtain ⟨ad, B2, d2, eA, h0, h1, h2, h3, h4, hd2, hcols⟩ := at_T98 HX.out (kk : Int) (by omega) (by omega)
                      have hx : rd_T98 t.f3 (kk : Int) = t.f3[kk] := by unfold rd_T98; simp [List.getD, hlt]
                      rw [hx] at h0 h1 h2 h3 h4 hd2 hcols
                      simp only [Int.toNat_natCast] at h0 h1 h2 h3 h4
                      replace h0 := pw_cell_below hBW h0
                      replace h1 := pw_cell_below hBW h1
                      replace h2 := pw_cell_below hBW h2
                      replace h3 := pw_cell_below hBW h3
                      replace h4 := pw_cell_below hBW h4
                      cases eA
                      clear hBW
                      have hW := HW.out.2.2 _ (List.getElem_mem hlt)
                      have hd : t.f3.drop kk = t.f3[kk] :: t.f3.drop (kk + 1) := List.drop_eq_getElem_cons hlt
                      have htk : t.f3.take (kk + 1) = t.f3.take kk ++ [t.f3[kk]] := List.take_succ_eq_append_getElem hlt
                      rw [hd] at HCI'
                      generalize t.f3[kk] = c at h0 h1 h2 h3 h4 hd2 hcols hW hd htk HCI'
                      have HWC := Lib.hid hW
                      obtain ⟨ids, hids⟩ : ∃ ids, (t.f2.map (fun c => c.f0) ++ (t.f3.take kk).map fun c => c.f0) = ids := ⟨_, rfl⟩
                      obtain ⟨nsI, hns⟩ : ∃ l_, ((t.f3.take kk).map fun c => nm c.f1) = l_ := ⟨_, rfl⟩
                      have hTI := Lib.hid (show (t.f2.map (fun c => c.f0) ++ (t.f3.take (kk + 1)).map fun c => c.f0) = ids ++ [c.f0] by rw [htk, ← hids]; simp)
                      have hTN := Lib.hid (show ((t.f3.take (kk + 1)).map fun c => nm c.f1) = nsI ++ [nm c.f1] by rw [htk, ← hns]; simp)
                      rw [hids, hns] at HT' HCI'
                      have hil : ids.length < 50 := by rw [← hids]; simp; omega
                      have hnl : nsI.length < 50 := by rw [← hns]; simp; omega
                      have hst : tindsB t ids nsI (c :: t.f3.drop (kk + 1)) = (fitsB t.f4 ids c.f0 && (!nsI.contains (nm c.f1) && (indexB t c && tindsB t (ids ++ [c.f0]) (nsI ++ [nm c.f1]) (t.f3.drop (kk + 1))))) := rfl
                      have HCI := Lib.hid (HCI'.out.trans hst)
                      have HKS := Lib.hid (keyS hW.2.2)
                      have HTB := Aside0.mk (HT'.out.step (below_alloc (Below.refl _ wr) (.cells #[.int .i64 c.f0, .string c.f1, .slice B2 c.f2.length d2, .bool c.f3, .int .i64 c.f4] 98)))
                      have HI2 := Aside0.mk hcols
                      clear hcols
                      clear hx hW hd htk hids hns hst HCI' HT'
                      cases hf : fitsB t.f4 ids c.f0 with
                      | false =>
                        cases hq : nsI.contains (nm c.f1) with
                        | false =>
                          have e0 := count_none hq
                          have e1 : _ = (1 : Int) := count_one e0
                          have hrun := HTB.out.m2.look0 lawS Tryd.underlying108 HKS.out e0
                          have E0 := Lib.hid e0
                          have E1 := Lib.hid e1
                          have HQ := Lib.hid hq
                          have HF := Lib.hid hf
                          clear e0 e1 hq hf
                          go_wp2_with (first | (at_mapUpdate; refine wpList_count rfl _ _ _ 108 rfl lawS Tryd.underlying108 rfl HTB.out.m2 (by omega) (by omega) _ (nm c.f1) rfl HKS.out (injS _) (isS _) _ (by rw [E0.out] <;> rfl) rfl ?_; intro w2 hm2 hg2; have T2 := Aside0.mk (HTB.out.up2 hm2.snoc hg2); have B2_ := Aside0.mk ((hg2.block _ (by simp) (fun e => by injection e with e; have := hszr; omega)).trans (heap_alloc_new wr (.cells #[.int .i64 c.f0, .string c.f1, .slice B2 c.f2.length d2, .bool c.f3, .int .i64 c.f4] 98))); have k0_ := (Go.Proofs.YtjgomlcdmpcoaaaDoorW.PrintWords.blk_cell B2_.out 0).trans (rfl : _ = some (Value.int .i64 c.f0)); clear hrun hm2 hg2) | (go_at_call 123; refine (fits_calls c.f0 t.f4 _ _ _ _ w.heap.size (w1.heap.size + 1 + 1 + 1) w1.heap.size ids w2 HWC.out.1 HWC.out.2.1 T2.out.box T2.out.idv T2.out.m0 (by omega)).mono ?_; rintro e w3 ⟨rfl, hm3, hg3⟩; rw [HF.out]; have T3 := Aside0.mk (T2.out.up0 hm3 hg3); have B3_ := Aside0.mk ((hg3.block _ (lt_of_block B2_.out) (fun e => by injection e with e; have := hszr; omega)).trans B2_.out); clear k0_; skip; clear hm3 hg3))
                          go_ret
                          exact ⟨by rw [HI.out, HC1.out, Bool.true_and, HCI.out, HF.out]; rfl, T3.out.below⟩
                        | true =>
                          obtain ⟨cq, e0, cq1, cq2'⟩ := count_some hq
                          have cq2 : cq ≤ 100 := by omega
                          have cq3 : 1 < cq + 1 := by omega
                          have e1 := count_one e0
                          clear cq2'
                          have hrun := HTB.out.m2.look0 lawS Tryd.underlying108 HKS.out e0
                          have E0 := Lib.hid e0
                          have E1 := Lib.hid e1
                          have HQ := Lib.hid hq
                          have HF := Lib.hid hf
                          clear e0 e1 hq hf
                          go_wp2_with (first | (at_mapUpdate; refine wpList_count rfl _ _ _ 108 rfl lawS Tryd.underlying108 rfl HTB.out.m2 (by omega) (by omega) _ (nm c.f1) rfl HKS.out (injS _) (isS _) _ (by rw [E0.out] <;> rfl) rfl ?_; intro w2 hm2 hg2; have T2 := Aside0.mk (HTB.out.up2 hm2.snoc hg2); have B2_ := Aside0.mk ((hg2.block _ (by simp) (fun e => by injection e with e; have := hszr; omega)).trans (heap_alloc_new wr (.cells #[.int .i64 c.f0, .string c.f1, .slice B2 c.f2.length d2, .bool c.f3, .int .i64 c.f4] 98))); have k0_ := (Go.Proofs.YtjgomlcdmpcoaaaDoorW.PrintWords.blk_cell B2_.out 0).trans (rfl : _ = some (Value.int .i64 c.f0)); clear hrun hm2 hg2) | (go_at_call 123; refine (fits_calls c.f0 t.f4 _ _ _ _ w.heap.size (w1.heap.size + 1 + 1 + 1) w1.heap.size ids w2 HWC.out.1 HWC.out.2.1 T2.out.box T2.out.idv T2.out.m0 (by omega)).mono ?_; rintro e w3 ⟨rfl, hm3, hg3⟩; rw [HF.out]; have T3 := Aside0.mk (T2.out.up0 hm3 hg3); have B3_ := Aside0.mk ((hg3.block _ (lt_of_block B2_.out) (fun e => by injection e with e; have := hszr; omega)).trans B2_.out); clear k0_; skip; clear hm3 hg3))
                          go_ret
                          exact ⟨by rw [HI.out, HC1.out, Bool.true_and, HCI.out, HF.out]; rfl, T3.out.below⟩
                      | true =>
                        cases hq : nsI.contains (nm c.f1) with
                        | true =>
                          obtain ⟨cq, e0, cq1, cq2'⟩ := count_some hq
                          have cq2 : cq ≤ 100 := by omega
                          have cq3 : 1 < cq + 1 := by omega
                          have e1 := count_one e0
                          clear cq2'
                          have hrun := HTB.out.m2.look0 lawS Tryd.underlying108 HKS.out e0
                          have E0 := Lib.hid e0
                          have E1 := Lib.hid e1
                          have HQ := Lib.hid hq
                          have HF := Lib.hid hf
                          clear e0 e1 hq hf
                          go_wp2_with (first | (at_mapUpdate; refine wpList_count rfl _ _ _ 108 rfl lawS Tryd.underlying108 rfl HTB.out.m2 (by omega) (by omega) _ (nm c.f1) rfl HKS.out (injS _) (isS _) _ (by rw [E0.out] <;> rfl) rfl ?_; intro w2 hm2 hg2; have T2 := Aside0.mk (HTB.out.up2 hm2.snoc hg2); have B2_ := Aside0.mk ((hg2.block _ (by simp) (fun e => by injection e with e; have := hszr; omega)).trans (heap_alloc_new wr (.cells #[.int .i64 c.f0, .string c.f1, .slice B2 c.f2.length d2, .bool c.f3, .int .i64 c.f4] 98))); have k0_ := (Go.Proofs.YtjgomlcdmpcoaaaDoorW.PrintWords.blk_cell B2_.out 0).trans (rfl : _ = some (Value.int .i64 c.f0)); clear hrun hm2 hg2) | (go_at_call 123; refine (fits_calls c.f0 t.f4 _ _ _ _ w.heap.size (w1.heap.size + 1 + 1 + 1) w1.heap.size ids w2 HWC.out.1 HWC.out.2.1 T2.out.box T2.out.idv T2.out.m0 (by omega)).mono ?_; rintro e w3 ⟨rfl, hm3, hg3⟩; rw [HF.out]; have T3 := Aside0.mk (T2.out.up0 hm3 hg3); have B3_ := Aside0.mk ((hg3.block _ (lt_of_block B2_.out) (fun e => by injection e with e; have := hszr; omega)).trans B2_.out); clear k0_; have k0_ := (Go.Proofs.YtjgomlcdmpcoaaaDoorW.PrintWords.blk_cell B3_.out 0).trans (rfl : _ = some (Value.int .i64 c.f0)); have k1_ := (Go.Proofs.YtjgomlcdmpcoaaaDoorW.PrintWords.blk_cell B3_.out 1).trans (rfl : _ = some (Value.string c.f1)); have k2_ := (Go.Proofs.YtjgomlcdmpcoaaaDoorW.PrintWords.blk_cell B3_.out 2).trans (rfl : _ = some (Value.slice B2 c.f2.length d2)); have k3_ := (Go.Proofs.YtjgomlcdmpcoaaaDoorW.PrintWords.blk_cell B3_.out 3).trans (rfl : _ = some (Value.bool c.f3)); have k4_ := (Go.Proofs.YtjgomlcdmpcoaaaDoorW.PrintWords.blk_cell B3_.out 4).trans (rfl : _ = some (Value.int .i64 c.f4)); have hrun3 := T3.out.m2.look0 lawS Tryd.underlying108 HKS.out E1.out; have j0_ := (Go.Proofs.YtjgomlcdmpcoaaaDoorW.PrintWords.blk_cell T3.out.box 0).trans (rfl : _ = some (Value.int .i64 t.f0)); have j1_ := (Go.Proofs.YtjgomlcdmpcoaaaDoorW.PrintWords.blk_cell T3.out.box 1).trans (rfl : _ = some (Value.string t.f1)); have j2_ := (Go.Proofs.YtjgomlcdmpcoaaaDoorW.PrintWords.blk_cell T3.out.box 2).trans (rfl : _ = some (Value.slice A2 t.f2.length c2)); have j3_ := (Go.Proofs.YtjgomlcdmpcoaaaDoorW.PrintWords.blk_cell T3.out.box 3).trans (rfl : _ = some (Value.slice (some ad) t.f3.length c3)); have j4_ := (Go.Proofs.YtjgomlcdmpcoaaaDoorW.PrintWords.blk_cell T3.out.box 4).trans (rfl : _ = some (Value.int .i64 t.f4)); clear hm3 hg3))
                          go_ret
                          exact ⟨by rw [HI.out, HC1.out, Bool.true_and, HCI.out, HF.out, HQ.out]; rfl, T3.out.below⟩
                        | false =>
                          cases hb : indexB t c with
                          | false =>
                            have e0 := count_none hq
                            have e1 : _ = (1 : Int) := count_one e0
                            have hrun := HTB.out.m2.look0 lawS Tryd.underlying108 HKS.out e0
                            have E0 := Lib.hid e0
                            have E1 := Lib.hid e1
                            have HQ := Lib.hid hq
                            have HF := Lib.hid hf
                            have HB := Lib.hid hb
                            clear e0 e1 hq hf hb
                            go_wp2_with (first | (at_mapUpdate; refine wpList_count rfl _ _ _ 108 rfl lawS Tryd.underlying108 rfl HTB.out.m2 (by omega) (by omega) _ (nm c.f1) rfl HKS.out (injS _) (isS _) _ (by rw [E0.out] <;> rfl) rfl ?_; intro w2 hm2 hg2; have T2 := Aside0.mk (HTB.out.up2 hm2.snoc hg2); have B2_ := Aside0.mk ((hg2.block _ (by simp) (fun e => by injection e with e; have := hszr; omega)).trans (heap_alloc_new wr (.cells #[.int .i64 c.f0, .string c.f1, .slice B2 c.f2.length d2, .bool c.f3, .int .i64 c.f4] 98))); have k0_ := (Go.Proofs.YtjgomlcdmpcoaaaDoorW.PrintWords.blk_cell B2_.out 0).trans (rfl : _ = some (Value.int .i64 c.f0)); clear hrun hm2 hg2) | (go_at_call 123; refine (fits_calls c.f0 t.f4 _ _ _ _ w.heap.size (w1.heap.size + 1 + 1 + 1) w1.heap.size ids w2 HWC.out.1 HWC.out.2.1 T2.out.box T2.out.idv T2.out.m0 (by omega)).mono ?_; rintro e w3 ⟨rfl, hm3, hg3⟩; rw [HF.out]; have T3 := Aside0.mk (T2.out.up0 hm3 hg3); have B3_ := Aside0.mk ((hg3.block _ (lt_of_block B2_.out) (fun e => by injection e with e; have := hszr; omega)).trans B2_.out); clear k0_; have k0_ := (Go.Proofs.YtjgomlcdmpcoaaaDoorW.PrintWords.blk_cell B3_.out 0).trans (rfl : _ = some (Value.int .i64 c.f0)); have k1_ := (Go.Proofs.YtjgomlcdmpcoaaaDoorW.PrintWords.blk_cell B3_.out 1).trans (rfl : _ = some (Value.string c.f1)); have k2_ := (Go.Proofs.YtjgomlcdmpcoaaaDoorW.PrintWords.blk_cell B3_.out 2).trans (rfl : _ = some (Value.slice B2 c.f2.length d2)); have k3_ := (Go.Proofs.YtjgomlcdmpcoaaaDoorW.PrintWords.blk_cell B3_.out 3).trans (rfl : _ = some (Value.bool c.f3)); have k4_ := (Go.Proofs.YtjgomlcdmpcoaaaDoorW.PrintWords.blk_cell B3_.out 4).trans (rfl : _ = some (Value.int .i64 c.f4)); have hrun3 := T3.out.m2.look0 lawS Tryd.underlying108 HKS.out E1.out; have j0_ := (Go.Proofs.YtjgomlcdmpcoaaaDoorW.PrintWords.blk_cell T3.out.box 0).trans (rfl : _ = some (Value.int .i64 t.f0)); have j1_ := (Go.Proofs.YtjgomlcdmpcoaaaDoorW.PrintWords.blk_cell T3.out.box 1).trans (rfl : _ = some (Value.string t.f1)); have j2_ := (Go.Proofs.YtjgomlcdmpcoaaaDoorW.PrintWords.blk_cell T3.out.box 2).trans (rfl : _ = some (Value.slice A2 t.f2.length c2)); have j3_ := (Go.Proofs.YtjgomlcdmpcoaaaDoorW.PrintWords.blk_cell T3.out.box 3).trans (rfl : _ = some (Value.slice (some ad) t.f3.length c3)); have j4_ := (Go.Proofs.YtjgomlcdmpcoaaaDoorW.PrintWords.blk_cell T3.out.box 4).trans (rfl : _ = some (Value.int .i64 t.f4)); clear hm3 hg3) | (go_at_call 125; refine (index_calls nameCalls t c A2 c2 _ c3 B2 d2 w3 (HG.out.of_below T3.out.below) hc2 (Kd.C_below HC.out T3.out.below) hd2 (Kd.C_below HI2.out T3.out.below)).mono ?_; rintro e w4 ⟨rfl, hb4⟩; rw [HB.out]; have T4 := Aside0.mk (T3.out.step hb4); clear hb4))
                            go_ret
                            exact ⟨by rw [HI.out, HC1.out, Bool.true_and, HCI.out, HF.out, HQ.out, HB.out]; rfl, T4.out.below⟩
                          | true =>
                            have e0 := count_none hq
                            have e1 : _ = (1 : Int) := count_one e0
                            have hrun := HTB.out.m2.look0 lawS Tryd.underlying108 HKS.out e0
                            have E0 := Lib.hid e0
                            have E1 := Lib.hid e1
                            have HQ := Lib.hid hq
                            have HF := Lib.hid hf
                            have HB := Lib.hid hb
                            clear e0 e1 hq hf hb
                            go_wp2_with (first | (at_mapUpdate; refine wpList_count rfl _ _ _ 108 rfl lawS Tryd.underlying108 rfl HTB.out.m2 (by omega) (by omega) _ (nm c.f1) rfl HKS.out (injS _) (isS _) _ (by rw [E0.out] <;> rfl) rfl ?_; intro w2 hm2 hg2; have T2 := Aside0.mk (HTB.out.up2 hm2.snoc hg2); have B2_ := Aside0.mk ((hg2.block _ (by simp) (fun e => by injection e with e; have := hszr; omega)).trans (heap_alloc_new wr (.cells #[.int .i64 c.f0, .string c.f1, .slice B2 c.f2.length d2, .bool c.f3, .int .i64 c.f4] 98))); have k0_ := (Go.Proofs.YtjgomlcdmpcoaaaDoorW.PrintWords.blk_cell B2_.out 0).trans (rfl : _ = some (Value.int .i64 c.f0)); clear hrun hm2 hg2) | (go_at_call 123; refine (fits_calls c.f0 t.f4 _ _ _ _ w.heap.size (w1.heap.size + 1 + 1 + 1) w1.heap.size ids w2 HWC.out.1 HWC.out.2.1 T2.out.box T2.out.idv T2.out.m0 (by omega)).mono ?_; rintro e w3 ⟨rfl, hm3, hg3⟩; rw [HF.out]; have T3 := Aside0.mk (T2.out.up0 hm3 hg3); have B3_ := Aside0.mk ((hg3.block _ (lt_of_block B2_.out) (fun e => by injection e with e; have := hszr; omega)).trans B2_.out); clear k0_; have k0_ := (Go.Proofs.YtjgomlcdmpcoaaaDoorW.PrintWords.blk_cell B3_.out 0).trans (rfl : _ = some (Value.int .i64 c.f0)); have k1_ := (Go.Proofs.YtjgomlcdmpcoaaaDoorW.PrintWords.blk_cell B3_.out 1).trans (rfl : _ = some (Value.string c.f1)); have k2_ := (Go.Proofs.YtjgomlcdmpcoaaaDoorW.PrintWords.blk_cell B3_.out 2).trans (rfl : _ = some (Value.slice B2 c.f2.length d2)); have k3_ := (Go.Proofs.YtjgomlcdmpcoaaaDoorW.PrintWords.blk_cell B3_.out 3).trans (rfl : _ = some (Value.bool c.f3)); have k4_ := (Go.Proofs.YtjgomlcdmpcoaaaDoorW.PrintWords.blk_cell B3_.out 4).trans (rfl : _ = some (Value.int .i64 c.f4)); have hrun3 := T3.out.m2.look0 lawS Tryd.underlying108 HKS.out E1.out; have j0_ := (Go.Proofs.YtjgomlcdmpcoaaaDoorW.PrintWords.blk_cell T3.out.box 0).trans (rfl : _ = some (Value.int .i64 t.f0)); have j1_ := (Go.Proofs.YtjgomlcdmpcoaaaDoorW.PrintWords.blk_cell T3.out.box 1).trans (rfl : _ = some (Value.string t.f1)); have j2_ := (Go.Proofs.YtjgomlcdmpcoaaaDoorW.PrintWords.blk_cell T3.out.box 2).trans (rfl : _ = some (Value.slice A2 t.f2.length c2)); have j3_ := (Go.Proofs.YtjgomlcdmpcoaaaDoorW.PrintWords.blk_cell T3.out.box 3).trans (rfl : _ = some (Value.slice (some ad) t.f3.length c3)); have j4_ := (Go.Proofs.YtjgomlcdmpcoaaaDoorW.PrintWords.blk_cell T3.out.box 4).trans (rfl : _ = some (Value.int .i64 t.f4)); clear hm3 hg3) | (go_at_call 125; refine (index_calls nameCalls t c A2 c2 _ c3 B2 d2 w3 (HG.out.of_below T3.out.below) hc2 (Kd.C_below HC.out T3.out.below) hd2 (Kd.C_below HI2.out T3.out.below)).mono ?_; rintro e w4 ⟨rfl, hb4⟩; rw [HB.out]; have T4 := Aside0.mk (T3.out.step hb4); clear hb4))
                            go_roundg (t.f3.length - (kk + 1))
                            case measure => omega
                            case rel =>
                              refine ⟨kk + 1, by omega, by omega, by go_num, ⟨?_, ?_⟩⟩
                              · rw [hTI.out, hTN.out]; exact T4
                              · refine ⟨?_⟩
                                rw [HCI.out, HF.out, HQ.out, HB.out, hTI.out, hTN.out]; rfl
                    · have hltz : ¬ (kk : Int) < (t.f3.length : Int) := by omega
                      have hkd : t.f3.drop kk = [] := List.drop_eq_nil_of_le (by omega)
                      have hkt : t.f3.take kk = t.f3 := List.take_of_length_le (by omega)
                      rw [hkd, hkt] at HCI'
                      rw [hkt] at HT'
                      have HT := HT'
                      clear HT' hkd hkt
                      have HC2 := Lib.hid (show tindsB t (t.f2.map (·.f0)) [] t.f3 = true from HCI'.out)
                      clear HCI'
                      have kb2 := (Go.Proofs.YtjgomlcdmpcoaaaDoorW.PrintWords.blk_cell HT.out.box 2).trans (rfl : _ = some (Value.slice A2 t.f2.length c2))
                      obtain ⟨ad, eA, h0, h1, h2, h3, h4, h5, h6, h7, h8⟩ := at_T75 (Kd.C_below HC.out HT.out.below) (0 : Int) (by omega) (by omega)
                      have hl0 : 0 < t.f2.length := by omega
                      have hx : rd_T75 t.f2 (0 : Int) = t.f2[0] := by unfold rd_T75; simp [List.getD, hl0]
                      rw [hx] at h0 h1 h2 h3 h4 h5 h6 h7 h8
                      simp only [Int.toNat_zero, Nat.zero_mul] at h0 h1 h2 h3 h4 h5 h6 h7 h8
                      have ea : ad.add 0 = ad := by simp [Addr.add]
                      rw [ea] at h0 h1 h2 h3 h4 h5 h6 h7 h8
                      clear ea
                      cases eA
                      have hK := keyB_of t hl0
                      generalize t.f2[0] = c at h0 h1 h2 h3 h4 h5 h6 h7 h8 hK
                      have HW0 := Lib.hid HT.out.below
                      clear hx HT
                      cases q1 : c.f3 == 4 with
                      | false =>
                        rw [q1] at hK
                        have HK := Lib.hid hK
                        clear hK
                        go_wp2
                        go_ret
                        exact ⟨by rw [HI.out, HC1.out, HC2.out, HK.out]; rfl, below_alloc HW0.out _⟩
                      | true =>
                        cases q2 : c.f4 == 4 with
                        | false =>
                          rw [q1, q2] at hK
                          have HK := Lib.hid hK
                          clear hK
                          go_wp2
                          go_ret
                          exact ⟨by rw [HI.out, HC1.out, HC2.out, HK.out]; rfl, below_alloc HW0.out _⟩
                        | true =>
                          rw [q1, q2] at hK
                          have HK := Lib.hid hK
                          clear hK
                          go_wp2
                          go_ret
                          exact ⟨by rw [HI.out, HC1.out, HC2.out, HK.out]; rfl, below_alloc HW0.out _⟩
end Go.Proofs.YtjgomlcdmpcoaaaDoor.H
namespace Go.Proofs.YtjgomlcdmpcoaaaDoor.H
open Go.RowKit Go.Proofs.YtjgomlcdmpcoaaaDoorW.PrintWords Go.Proofs.YtjgomlcdmpcoaaaDoorW.PrintLast Go.Proofs.YtjgomlcdmpcoaaaDoorW.PrintMore
open Go.Proofs.YtjgomlcdmpcoaaaDoor.D Go.Proofs.YtjgomlcdmpcoaaaDoor
set_option linter.unusedVariables false
set_option linter.unusedSimpArgs false
def tabsB (nx : Int) : Int → List (List UInt8) → List S70 → Bool
  | _, _, [] => true
  | last, ns, t :: r => decide (last < t.f0) && (decide (t.f0 < nx) && (!ns.contains (nm t.f1) && (tableB t && tabsB nx t.f0 (ns ++ [nm t.f1]) r)))
def schB (v : Int) (ts : List S70) (nx : Int) : Bool := decide (0 ≤ v) && (decide (v < 1099511627776) && (decide (0 ≤ nx) && (decide (nx < 1099511627776) && (decide (ts.length ≤ 4) && tabsB nx 0 [] ts))))
structure MSt (w wr : World) (bx : Array Value) (ns : List (List UInt8)) : Prop where
  below : Below w.heap.size w wr
  box : wr.heap[w.heap.size]? = some (.cells bx 28 (0, 0))
  m : CntM 9 litS wr (w.heap.size + 1) ns.length ns
section
variable {w wr w' : World} {bx : Array Value} {ns ns' : List (List UInt8)}
theorem MSt.size (h : MSt w wr bx ns) : w.heap.size + 1 < wr.heap.size := h.m.lt
theorem MSt.step (h : MSt w wr bx ns) (hb : Below wr.heap.size wr w') : MSt w w' bx ns := ⟨below_then h.below h.below.size hb, blk_below h.box hb, h.m.below hb⟩
theorem MSt.up (h : MSt w wr bx ns) (hm : CntM 9 litS w' (w.heap.size + 1) ns'.length ns') (hg : wr.grownBy w' (some (w.heap.size + 1))) : MSt w w' bx ns' :=
  ⟨h.below.grown hg h.below.size (fun k e => by injection e with e; omega), (hg.block _ (lt_of_block h.box) (fun e => by injection e with e; omega)).trans h.box, hm⟩
theorem MSt.new (w : World) (bx : Array Value) : MSt w ((w.alloc (.cells bx 28)).alloc (.map #[] 0)) bx [] := by
  have a1 := below_alloc (Below.refl _ w) (.cells bx 28)
  have a2 := below_alloc (Below.refl _ (w.alloc (.cells bx 28))) (.map #[] 0)
  have s1 : (w.alloc (.cells bx 28)).heap.size = w.heap.size + 1 := by simp
  refine ⟨below_then a1 (by rw [s1]; omega) a2, blk_below (heap_alloc_new w _) a2, ?_⟩
  have := CntM.new 9 litS (w.alloc (.cells bx 28))
  rw [s1] at this
  exact this
end
set_option maxRecDepth 100000 in
set_option maxHeartbeats 16000000 in
theorem may_calls (v : Int) (ts : List S70) (nx : Int) (hwf : ∀ t ∈ ts, TabWf t) (A : Option Addr) (c : Nat) (w : World) (hG : GL w) (g2 : k70.C w A ts.length ts) :
    Calls Tryd.prog 36 #[.agg #[.int .i64 v, .slice A ts.length c, .int .i64 nx]] w fun e w' => e = .returned (.bool (schB v ts nx)) ∧ Below w.heap.size w w' := by
  have HG := Aside0.mk hG
  have HC := Aside0.mk g2
  have HW := Aside0.mk hwf
  have hmm := @run_makeMap Tryd.prog
  have big2 := g2.2.1
  have hI : schB v ts nx = (decide (0 ≤ v) && (decide (v < 1099511627776) && (decide (0 ≤ nx) && (decide (nx < 1099511627776) && (decide (ts.length ≤ 4) && tabsB nx 0 [] ts))))) := rfl
  generalize schB v ts nx = R at hI ⊢
  clear hG g2 hwf
  have E1 : decide (v < 0) = !decide (0 ≤ v) := by by_cases h : 0 ≤ v <;> simp [h] <;> omega
  have E2 : decide (1099511627776 ≤ v) = !decide (v < 1099511627776) := by by_cases h : v < 1099511627776 <;> simp [h] <;> omega
  have E3 : decide (nx < 0) = !decide (0 ≤ nx) := by by_cases h : 0 ≤ nx <;> simp [h] <;> omega
  have E4 : decide (1099511627776 ≤ nx) = !decide (nx < 1099511627776) := by by_cases h : nx < 1099511627776 <;> simp [h] <;> omega
  have E5 : decide (4 < (ts.length : Int)) = !decide (ts.length ≤ 4) := by by_cases h : ts.length ≤ 4 <;> simp [h] <;> omega
  cases q1 : decide (0 ≤ v) with
  | false =>
    rw [q1] at E1 hI
    simp only [Bool.not_false, Bool.not_true] at E1
    have HI := Lib.hid hI
    clear hI q1 E2 E3 E4 E5
    go_enter Tryd.func36, Tryd.ntmps36
    go_wp2
    go_ret
    exact ⟨by rw [HI.out]; rfl, below_alloc (Below.refl _ _) _⟩
  | true =>
    rw [q1] at E1 hI
    cases q2 : decide (v < 1099511627776) with
    | false =>
      rw [q2] at E2 hI
      simp only [Bool.not_false, Bool.not_true] at E1 E2
      have HI := Lib.hid hI
      clear hI q1 q2 E3 E4 E5
      go_enter Tryd.func36, Tryd.ntmps36
      go_wp2
      go_ret
      exact ⟨by rw [HI.out]; rfl, below_alloc (Below.refl _ _) _⟩
    | true =>
      rw [q2] at E2 hI
      cases q3 : decide (0 ≤ nx) with
      | false =>
        rw [q3] at E3 hI
        simp only [Bool.not_false, Bool.not_true] at E1 E2 E3
        have HI := Lib.hid hI
        clear hI q1 q2 q3 E4 E5
        go_enter Tryd.func36, Tryd.ntmps36
        go_wp2
        go_ret
        exact ⟨by rw [HI.out]; rfl, below_alloc (Below.refl _ _) _⟩
      | true =>
        rw [q3] at E3 hI
        cases q4 : decide (nx < 1099511627776) with
        | false =>
          rw [q4] at E4 hI
          simp only [Bool.not_false, Bool.not_true] at E1 E2 E3 E4
          have HI := Lib.hid hI
          clear hI q1 q2 q3 q4 E5
          go_enter Tryd.func36, Tryd.ntmps36
          go_wp2
          go_ret
          exact ⟨by rw [HI.out]; rfl, below_alloc (Below.refl _ _) _⟩
        | true =>
          rw [q4] at E4 hI
          cases q5 : decide (ts.length ≤ 4) with
          | false =>
            rw [q5] at E5 hI
            simp only [Bool.not_false, Bool.not_true] at E1 E2 E3 E4 E5
            have HI := Lib.hid hI
            clear hI q1 q2 q3 q4 q5
            go_enter Tryd.func36, Tryd.ntmps36
            go_wp2
            go_ret
            exact ⟨by rw [HI.out]; rfl, below_alloc (Below.refl _ _) _⟩
          | true =>
            rw [q5] at E5 hI
            simp only [Bool.not_false, Bool.not_true] at E1 E2 E3 E4 E5
            simp only [Bool.true_and] at hI
            have z5 := of_decide_eq_true q5
            clear q1 q2 q3 q4 q5
            have HI := Lib.hid hI
            have HT := Aside0.mk (MSt.new w #[.int .i64 v, .slice A ts.length c, .int .i64 nx])
            clear hI
            go_enter Tryd.func36, Tryd.ntmps36
            go_wp2_with fail
            clear E1 E2 E3 E4 E5
            go_loopg [3, 6, 35] ts.length (fun gg u3 _ u35 wr => ∃ kk : Nat, ∃ last : Int, kk ≤ ts.length ∧ ts.length - kk ≤ gg ∧ u3 = .int .i64 last ∧ u35 = .int .i64 kk ∧ Aside0 (MSt w wr #[.int .i64 v, .slice A ts.length c, .int .i64 nx] ((ts.take kk).map fun t => nm t.f1)) ∧ Aside0 (tabsB nx 0 [] ts = tabsB nx last ((ts.take kk).map fun t => nm t.f1) (ts.drop kk)))
            case atStart => exact ⟨0, 0, Nat.zero_le _, by omega, rfl, rfl, ⟨by first | exact HT.out | (simpa using HT.out)⟩, ⟨by simp⟩⟩
            case round =>
              obtain ⟨kk, last, hkk, hgg, rfl, rfl, HT', HCI'⟩ := hrel
              clear HT
              by_cases hlt : kk < ts.length
              · have hltz : (kk : Int) < (ts.length : Int) := by omega
                have hszr : w.heap.size + 1 < wr.heap.size := HT'.out.size
                have hBW := HT'.out.below
                obtain ⟨ad, A2, c2, A3, c3, eA, h0, h1, h2, h3, h4, hd2, hcols, hd3, hinds⟩ := at_T70 HC.out (kk : Int) (by omega) (by omega)
                have hx : rd_T70 ts (kk : Int) = ts[kk] := by unfold rd_T70; simp [List.getD, hlt]
                rw [hx] at h0 h1 h2 h3 h4 hd2 hcols hd3 hinds
                simp only [Int.toNat_natCast] at h0 h1 h2 h3 h4
                replace h0 := pw_cell_below hBW h0
                replace h1 := pw_cell_below hBW h1
                replace h2 := pw_cell_below hBW h2
                replace h3 := pw_cell_below hBW h3
                replace h4 := pw_cell_below hBW h4
                cases eA
                have hW := HW.out _ (List.getElem_mem hlt)
                have hd : ts.drop kk = ts[kk] :: ts.drop (kk + 1) := List.drop_eq_getElem_cons hlt
                have htk : ts.take (kk + 1) = ts.take kk ++ [ts[kk]] := List.take_succ_eq_append_getElem hlt
                rw [hd] at HCI'
                generalize ts[kk] = t at h0 h1 h2 h3 h4 hd2 hcols hd3 hinds hW hd htk HCI'
                have HWT := Lib.hid hW
                obtain ⟨nsC, hns⟩ : ∃ l_, ((ts.take kk).map fun t => nm t.f1) = l_ := ⟨_, rfl⟩
                have hTN := Lib.hid (show ((ts.take (kk + 1)).map fun t => nm t.f1) = nsC ++ [nm t.f1] by rw [htk, ← hns]; simp)
                rw [hns] at HT' HCI'
                have hnl : nsC.length < 50 := by rw [← hns]; simp; omega
                have hst : tabsB nx last nsC (t :: ts.drop (kk + 1)) = (decide (last < t.f0) && (decide (t.f0 < nx) && (!nsC.contains (nm t.f1) && (tableB t && tabsB nx t.f0 (nsC ++ [nm t.f1]) (ts.drop (kk + 1)))))) := rfl
                have HCI := Lib.hid (HCI'.out.trans hst)
                have HKS := Lib.hid (keyS hW.1)
                have HTB := Aside0.mk (HT'.out.step (below_alloc (Below.refl _ wr) (.cells #[.int .i64 t.f0, .string t.f1, .slice A2 t.f2.length c2, .slice A3 t.f3.length c3, .int .i64 t.f4] 70)))
                have HI2 := Aside0.mk hcols
                have HI3 := Aside0.mk hinds
                clear hx hW hd htk hns hst HCI' HT' hcols hinds hBW
                have F1 : decide (t.f0 ≤ last) = !decide (last < t.f0) := by by_cases h : last < t.f0 <;> simp [h] <;> omega
                have F2 : decide (nx ≤ t.f0) = !decide (t.f0 < nx) := by by_cases h : t.f0 < nx <;> simp [h] <;> omega
                cases ha : decide (last < t.f0) with
                | false =>
                  rw [ha] at F1
                  have HA := Lib.hid ha
                  clear ha F2
                  simp only [Bool.not_false] at F1
                  cases hq : nsC.contains (nm t.f1) with
                  | false =>
                    have e0 := count_none hq
                    have e1 : _ = (1 : Int) := count_one e0
                    have hrun := HTB.out.m.look0 lawS Tryd.underlying108 HKS.out e0
                    have E0 := Lib.hid e0
                    have E1 := Lib.hid e1
                    have HQ := Lib.hid hq
                    clear e0 e1 hq
                    go_wp2_with ((at_mapUpdate; refine wpList_count rfl _ _ _ 108 rfl lawS Tryd.underlying108 rfl HTB.out.m (by omega) (by omega) _ (nm t.f1) rfl HKS.out (injS _) (isS _) _ (by rw [E0.out] <;> rfl) rfl ?_; intro w2 hm2 hg2; have T2 := Aside0.mk (HTB.out.up hm2.snoc hg2); have B2_ := Aside0.mk ((hg2.block _ (by simp) (fun e => by injection e with e; have := hszr; omega)).trans (heap_alloc_new wr (.cells #[.int .i64 t.f0, .string t.f1, .slice A2 t.f2.length c2, .slice A3 t.f3.length c3, .int .i64 t.f4] 70))); have k0_ := (Go.Proofs.YtjgomlcdmpcoaaaDoorW.PrintWords.blk_cell B2_.out 0).trans (rfl : _ = some (Value.int .i64 t.f0)); have k1_ := (Go.Proofs.YtjgomlcdmpcoaaaDoorW.PrintWords.blk_cell B2_.out 1).trans (rfl : _ = some (Value.string t.f1)); have k2_ := (Go.Proofs.YtjgomlcdmpcoaaaDoorW.PrintWords.blk_cell B2_.out 2).trans (rfl : _ = some (Value.slice A2 t.f2.length c2)); have k3_ := (Go.Proofs.YtjgomlcdmpcoaaaDoorW.PrintWords.blk_cell B2_.out 3).trans (rfl : _ = some (Value.slice A3 t.f3.length c3)); have k4_ := (Go.Proofs.YtjgomlcdmpcoaaaDoorW.PrintWords.blk_cell B2_.out 4).trans (rfl : _ = some (Value.int .i64 t.f4)); have j2_ := (Go.Proofs.YtjgomlcdmpcoaaaDoorW.PrintWords.blk_cell T2.out.box 2).trans (rfl : _ = some (Value.int .i64 nx)); have hrun2 := T2.out.m.look0 lawS Tryd.underlying108 HKS.out E1.out; clear hrun hm2 hg2))
                    go_ret
                    exact ⟨by rw [HI.out, HCI.out, HA.out]; rfl, T2.out.below⟩
                  | true =>
                    obtain ⟨cq, e0, cq1, cq2'⟩ := count_some hq
                    have cq2 : cq ≤ 100 := by omega
                    have cq3 : 1 < cq + 1 := by omega
                    have e1 := count_one e0
                    clear cq2'
                    have hrun := HTB.out.m.look0 lawS Tryd.underlying108 HKS.out e0
                    have E0 := Lib.hid e0
                    have E1 := Lib.hid e1
                    have HQ := Lib.hid hq
                    clear e0 e1 hq
                    go_wp2_with ((at_mapUpdate; refine wpList_count rfl _ _ _ 108 rfl lawS Tryd.underlying108 rfl HTB.out.m (by omega) (by omega) _ (nm t.f1) rfl HKS.out (injS _) (isS _) _ (by rw [E0.out] <;> rfl) rfl ?_; intro w2 hm2 hg2; have T2 := Aside0.mk (HTB.out.up hm2.snoc hg2); have B2_ := Aside0.mk ((hg2.block _ (by simp) (fun e => by injection e with e; have := hszr; omega)).trans (heap_alloc_new wr (.cells #[.int .i64 t.f0, .string t.f1, .slice A2 t.f2.length c2, .slice A3 t.f3.length c3, .int .i64 t.f4] 70))); have k0_ := (Go.Proofs.YtjgomlcdmpcoaaaDoorW.PrintWords.blk_cell B2_.out 0).trans (rfl : _ = some (Value.int .i64 t.f0)); have k1_ := (Go.Proofs.YtjgomlcdmpcoaaaDoorW.PrintWords.blk_cell B2_.out 1).trans (rfl : _ = some (Value.string t.f1)); have k2_ := (Go.Proofs.YtjgomlcdmpcoaaaDoorW.PrintWords.blk_cell B2_.out 2).trans (rfl : _ = some (Value.slice A2 t.f2.length c2)); have k3_ := (Go.Proofs.YtjgomlcdmpcoaaaDoorW.PrintWords.blk_cell B2_.out 3).trans (rfl : _ = some (Value.slice A3 t.f3.length c3)); have k4_ := (Go.Proofs.YtjgomlcdmpcoaaaDoorW.PrintWords.blk_cell B2_.out 4).trans (rfl : _ = some (Value.int .i64 t.f4)); have j2_ := (Go.Proofs.YtjgomlcdmpcoaaaDoorW.PrintWords.blk_cell T2.out.box 2).trans (rfl : _ = some (Value.int .i64 nx)); have hrun2 := T2.out.m.look0 lawS Tryd.underlying108 HKS.out E1.out; clear hrun hm2 hg2))
                    go_ret
                    exact ⟨by rw [HI.out, HCI.out, HA.out]; rfl, T2.out.below⟩
                | true =>
                  rw [ha] at F1
                  have HA := Lib.hid ha
                  clear ha
                  simp only [Bool.not_true] at F1
                  cases hb : decide (t.f0 < nx) with
                  | false =>
                    rw [hb] at F2
                    have HBb := Lib.hid hb
                    clear hb
                    simp only [Bool.not_false] at F2
                    cases hq : nsC.contains (nm t.f1) with
                    | false =>
                      have e0 := count_none hq
                      have e1 : _ = (1 : Int) := count_one e0
                      have hrun := HTB.out.m.look0 lawS Tryd.underlying108 HKS.out e0
                      have E0 := Lib.hid e0
                      have E1 := Lib.hid e1
                      have HQ := Lib.hid hq
                      clear e0 e1 hq
                      go_wp2_with ((at_mapUpdate; refine wpList_count rfl _ _ _ 108 rfl lawS Tryd.underlying108 rfl HTB.out.m (by omega) (by omega) _ (nm t.f1) rfl HKS.out (injS _) (isS _) _ (by rw [E0.out] <;> rfl) rfl ?_; intro w2 hm2 hg2; have T2 := Aside0.mk (HTB.out.up hm2.snoc hg2); have B2_ := Aside0.mk ((hg2.block _ (by simp) (fun e => by injection e with e; have := hszr; omega)).trans (heap_alloc_new wr (.cells #[.int .i64 t.f0, .string t.f1, .slice A2 t.f2.length c2, .slice A3 t.f3.length c3, .int .i64 t.f4] 70))); have k0_ := (Go.Proofs.YtjgomlcdmpcoaaaDoorW.PrintWords.blk_cell B2_.out 0).trans (rfl : _ = some (Value.int .i64 t.f0)); have k1_ := (Go.Proofs.YtjgomlcdmpcoaaaDoorW.PrintWords.blk_cell B2_.out 1).trans (rfl : _ = some (Value.string t.f1)); have k2_ := (Go.Proofs.YtjgomlcdmpcoaaaDoorW.PrintWords.blk_cell B2_.out 2).trans (rfl : _ = some (Value.slice A2 t.f2.length c2)); have k3_ := (Go.Proofs.YtjgomlcdmpcoaaaDoorW.PrintWords.blk_cell B2_.out 3).trans (rfl : _ = some (Value.slice A3 t.f3.length c3)); have k4_ := (Go.Proofs.YtjgomlcdmpcoaaaDoorW.PrintWords.blk_cell B2_.out 4).trans (rfl : _ = some (Value.int .i64 t.f4)); have j2_ := (Go.Proofs.YtjgomlcdmpcoaaaDoorW.PrintWords.blk_cell T2.out.box 2).trans (rfl : _ = some (Value.int .i64 nx)); have hrun2 := T2.out.m.look0 lawS Tryd.underlying108 HKS.out E1.out; clear hrun hm2 hg2))
                      go_ret
                      exact ⟨by rw [HI.out, HCI.out, HA.out, HBb.out]; rfl, T2.out.below⟩
                    | true =>
                      obtain ⟨cq, e0, cq1, cq2'⟩ := count_some hq
                      have cq2 : cq ≤ 100 := by omega
                      have cq3 : 1 < cq + 1 := by omega
                      have e1 := count_one e0
                      clear cq2'
                      have hrun := HTB.out.m.look0 lawS Tryd.underlying108 HKS.out e0
                      have E0 := Lib.hid e0
                      have E1 := Lib.hid e1
                      have HQ := Lib.hid hq
                      clear e0 e1 hq
                      go_wp2_with ((at_mapUpdate; refine wpList_count rfl _ _ _ 108 rfl lawS Tryd.underlying108 rfl HTB.out.m (by omega) (by omega) _ (nm t.f1) rfl HKS.out (injS _) (isS _) _ (by rw [E0.out] <;> rfl) rfl ?_; intro w2 hm2 hg2; have T2 := Aside0.mk (HTB.out.up hm2.snoc hg2); have B2_ := Aside0.mk ((hg2.block _ (by simp) (fun e => by injection e with e; have := hszr; omega)).trans (heap_alloc_new wr (.cells #[.int .i64 t.f0, .string t.f1, .slice A2 t.f2.length c2, .slice A3 t.f3.length c3, .int .i64 t.f4] 70))); have k0_ := (Go.Proofs.YtjgomlcdmpcoaaaDoorW.PrintWords.blk_cell B2_.out 0).trans (rfl : _ = some (Value.int .i64 t.f0)); have k1_ := (Go.Proofs.YtjgomlcdmpcoaaaDoorW.PrintWords.blk_cell B2_.out 1).trans (rfl : _ = some (Value.string t.f1)); have k2_ := (Go.Proofs.YtjgomlcdmpcoaaaDoorW.PrintWords.blk_cell B2_.out 2).trans (rfl : _ = some (Value.slice A2 t.f2.length c2)); have k3_ := (Go.Proofs.YtjgomlcdmpcoaaaDoorW.PrintWords.blk_cell B2_.out 3).trans (rfl : _ = some (Value.slice A3 t.f3.length c3)); have k4_ := (Go.Proofs.YtjgomlcdmpcoaaaDoorW.PrintWords.blk_cell B2_.out 4).trans (rfl : _ = some (Value.int .i64 t.f4)); have j2_ := (Go.Proofs.YtjgomlcdmpcoaaaDoorW.PrintWords.blk_cell T2.out.box 2).trans (rfl : _ = some (Value.int .i64 nx)); have hrun2 := T2.out.m.look0 lawS Tryd.underlying108 HKS.out E1.out; clear hrun hm2 hg2))
                      go_ret
                      exact ⟨by rw [HI.out, HCI.out, HA.out, HBb.out]; rfl, T2.out.below⟩
                  | true =>
                    rw [hb] at F2
                    have HBb := Lib.hid hb
                    clear hb
                    simp only [Bool.not_true] at F2
                    cases hq : nsC.contains (nm t.f1) with
                    | true =>
                      obtain ⟨cq, e0, cq1, cq2'⟩ := count_some hq
                      have cq2 : cq ≤ 100 := by omega
                      have cq3 : 1 < cq + 1 := by omega
                      have e1 := count_one e0
                      clear cq2'
                      have hrun := HTB.out.m.look0 lawS Tryd.underlying108 HKS.out e0
                      have E0 := Lib.hid e0
                      have E1 := Lib.hid e1
                      have HQ := Lib.hid hq
                      clear e0 e1 hq
                      go_wp2_with ((at_mapUpdate; refine wpList_count rfl _ _ _ 108 rfl lawS Tryd.underlying108 rfl HTB.out.m (by omega) (by omega) _ (nm t.f1) rfl HKS.out (injS _) (isS _) _ (by rw [E0.out] <;> rfl) rfl ?_; intro w2 hm2 hg2; have T2 := Aside0.mk (HTB.out.up hm2.snoc hg2); have B2_ := Aside0.mk ((hg2.block _ (by simp) (fun e => by injection e with e; have := hszr; omega)).trans (heap_alloc_new wr (.cells #[.int .i64 t.f0, .string t.f1, .slice A2 t.f2.length c2, .slice A3 t.f3.length c3, .int .i64 t.f4] 70))); have k0_ := (Go.Proofs.YtjgomlcdmpcoaaaDoorW.PrintWords.blk_cell B2_.out 0).trans (rfl : _ = some (Value.int .i64 t.f0)); have k1_ := (Go.Proofs.YtjgomlcdmpcoaaaDoorW.PrintWords.blk_cell B2_.out 1).trans (rfl : _ = some (Value.string t.f1)); have k2_ := (Go.Proofs.YtjgomlcdmpcoaaaDoorW.PrintWords.blk_cell B2_.out 2).trans (rfl : _ = some (Value.slice A2 t.f2.length c2)); have k3_ := (Go.Proofs.YtjgomlcdmpcoaaaDoorW.PrintWords.blk_cell B2_.out 3).trans (rfl : _ = some (Value.slice A3 t.f3.length c3)); have k4_ := (Go.Proofs.YtjgomlcdmpcoaaaDoorW.PrintWords.blk_cell B2_.out 4).trans (rfl : _ = some (Value.int .i64 t.f4)); have j2_ := (Go.Proofs.YtjgomlcdmpcoaaaDoorW.PrintWords.blk_cell T2.out.box 2).trans (rfl : _ = some (Value.int .i64 nx)); have hrun2 := T2.out.m.look0 lawS Tryd.underlying108 HKS.out E1.out; clear hrun hm2 hg2))
                      go_ret
                      exact ⟨by rw [HI.out, HCI.out, HA.out, HBb.out, HQ.out]; rfl, T2.out.below⟩
                    | false =>
                      cases htb : tableB t with
                      | false =>
                        have e0 := count_none hq
                        have e1 : _ = (1 : Int) := count_one e0
                        have hrun := HTB.out.m.look0 lawS Tryd.underlying108 HKS.out e0
                        have E0 := Lib.hid e0
                        have E1 := Lib.hid e1
                        have HQ := Lib.hid hq
                        clear e0 e1 hq
                        have HB := Lib.hid htb
                        clear htb
                        go_wp2_with (first | (at_mapUpdate; refine wpList_count rfl _ _ _ 108 rfl lawS Tryd.underlying108 rfl HTB.out.m (by omega) (by omega) _ (nm t.f1) rfl HKS.out (injS _) (isS _) _ (by rw [E0.out] <;> rfl) rfl ?_; intro w2 hm2 hg2; have T2 := Aside0.mk (HTB.out.up hm2.snoc hg2); have B2_ := Aside0.mk ((hg2.block _ (by simp) (fun e => by injection e with e; have := hszr; omega)).trans (heap_alloc_new wr (.cells #[.int .i64 t.f0, .string t.f1, .slice A2 t.f2.length c2, .slice A3 t.f3.length c3, .int .i64 t.f4] 70))); have k0_ := (Go.Proofs.YtjgomlcdmpcoaaaDoorW.PrintWords.blk_cell B2_.out 0).trans (rfl : _ = some (Value.int .i64 t.f0)); have k1_ := (Go.Proofs.YtjgomlcdmpcoaaaDoorW.PrintWords.blk_cell B2_.out 1).trans (rfl : _ = some (Value.string t.f1)); have k2_ := (Go.Proofs.YtjgomlcdmpcoaaaDoorW.PrintWords.blk_cell B2_.out 2).trans (rfl : _ = some (Value.slice A2 t.f2.length c2)); have k3_ := (Go.Proofs.YtjgomlcdmpcoaaaDoorW.PrintWords.blk_cell B2_.out 3).trans (rfl : _ = some (Value.slice A3 t.f3.length c3)); have k4_ := (Go.Proofs.YtjgomlcdmpcoaaaDoorW.PrintWords.blk_cell B2_.out 4).trans (rfl : _ = some (Value.int .i64 t.f4)); have j2_ := (Go.Proofs.YtjgomlcdmpcoaaaDoorW.PrintWords.blk_cell T2.out.box 2).trans (rfl : _ = some (Value.int .i64 nx)); have hrun2 := T2.out.m.look0 lawS Tryd.underlying108 HKS.out E1.out; clear hrun hm2 hg2) | (go_at_call 74; refine (table_may t HWT.out A2 c2 A3 c3 w2 (HG.out.of_below T2.out.below) hd2 (Kd.C_below HI2.out T2.out.below) hd3 (Kd.C_below HI3.out T2.out.below)).mono ?_; rintro e w4 ⟨rfl, hb4⟩; rw [HB.out]; have T4 := Aside0.mk (T2.out.step hb4); have B4_ := Aside0.mk (blk_below B2_.out hb4); have k0__ := (Go.Proofs.YtjgomlcdmpcoaaaDoorW.PrintWords.blk_cell B4_.out 0).trans (rfl : _ = some (Value.int .i64 t.f0)); clear hb4))
                        go_ret
                        exact ⟨by rw [HI.out, HCI.out, HA.out, HBb.out, HQ.out, HB.out]; rfl, T4.out.below⟩
                      | true =>
                        have e0 := count_none hq
                        have e1 : _ = (1 : Int) := count_one e0
                        have hrun := HTB.out.m.look0 lawS Tryd.underlying108 HKS.out e0
                        have E0 := Lib.hid e0
                        have E1 := Lib.hid e1
                        have HQ := Lib.hid hq
                        clear e0 e1 hq
                        have HB := Lib.hid htb
                        clear htb
                        go_wp2_with (first | (at_mapUpdate; refine wpList_count rfl _ _ _ 108 rfl lawS Tryd.underlying108 rfl HTB.out.m (by omega) (by omega) _ (nm t.f1) rfl HKS.out (injS _) (isS _) _ (by rw [E0.out] <;> rfl) rfl ?_; intro w2 hm2 hg2; have T2 := Aside0.mk (HTB.out.up hm2.snoc hg2); have B2_ := Aside0.mk ((hg2.block _ (by simp) (fun e => by injection e with e; have := hszr; omega)).trans (heap_alloc_new wr (.cells #[.int .i64 t.f0, .string t.f1, .slice A2 t.f2.length c2, .slice A3 t.f3.length c3, .int .i64 t.f4] 70))); have k0_ := (Go.Proofs.YtjgomlcdmpcoaaaDoorW.PrintWords.blk_cell B2_.out 0).trans (rfl : _ = some (Value.int .i64 t.f0)); have k1_ := (Go.Proofs.YtjgomlcdmpcoaaaDoorW.PrintWords.blk_cell B2_.out 1).trans (rfl : _ = some (Value.string t.f1)); have k2_ := (Go.Proofs.YtjgomlcdmpcoaaaDoorW.PrintWords.blk_cell B2_.out 2).trans (rfl : _ = some (Value.slice A2 t.f2.length c2)); have k3_ := (Go.Proofs.YtjgomlcdmpcoaaaDoorW.PrintWords.blk_cell B2_.out 3).trans (rfl : _ = some (Value.slice A3 t.f3.length c3)); have k4_ := (Go.Proofs.YtjgomlcdmpcoaaaDoorW.PrintWords.blk_cell B2_.out 4).trans (rfl : _ = some (Value.int .i64 t.f4)); have j2_ := (Go.Proofs.YtjgomlcdmpcoaaaDoorW.PrintWords.blk_cell T2.out.box 2).trans (rfl : _ = some (Value.int .i64 nx)); have hrun2 := T2.out.m.look0 lawS Tryd.underlying108 HKS.out E1.out; clear hrun hm2 hg2) | (go_at_call 74; refine (table_may t HWT.out A2 c2 A3 c3 w2 (HG.out.of_below T2.out.below) hd2 (Kd.C_below HI2.out T2.out.below) hd3 (Kd.C_below HI3.out T2.out.below)).mono ?_; rintro e w4 ⟨rfl, hb4⟩; rw [HB.out]; have T4 := Aside0.mk (T2.out.step hb4); have B4_ := Aside0.mk (blk_below B2_.out hb4); have k0__ := (Go.Proofs.YtjgomlcdmpcoaaaDoorW.PrintWords.blk_cell B4_.out 0).trans (rfl : _ = some (Value.int .i64 t.f0)); clear hb4))
                        go_roundg (ts.length - (kk + 1))
                        case measure => omega
                        case rel =>
                          refine ⟨kk + 1, t.f0, by omega, by omega, rfl, by go_num, ⟨?_⟩, ⟨?_⟩⟩
                          · rw [hTN.out]; exact T4.out
                          · rw [HCI.out, HA.out, HBb.out, HQ.out, HB.out, hTN.out]; rfl
              · have hltz : ¬ (kk : Int) < (ts.length : Int) := by omega
                have hkd : ts.drop kk = [] := List.drop_eq_nil_of_le (by omega)
                rw [hkd] at HCI'
                have HC1 := Lib.hid (show tabsB nx 0 [] ts = true from HCI'.out)
                clear HCI' hkd
                go_wp2
                go_ret
                exact ⟨by rw [HI.out, HC1.out]; rfl, HT'.out.below⟩
end Go.Proofs.YtjgomlcdmpcoaaaDoor.H
namespace Go.Proofs.YtjgomlcdmpcoaaaDoor.H
open Go.RowKit Go.Proofs.YtjgomlcdmpcoaaaDoorW.PrintWords Go.Proofs.YtjgomlcdmpcoaaaDoorW.PrintLast Go.Proofs.YtjgomlcdmpcoaaaDoorW.PrintMore
open Go.Proofs.YtjgomlcdmpcoaaaDoor.D Go.Proofs.YtjgomlcdmpcoaaaDoor
set_option linter.unusedVariables false
def Opens {α : Type} (d : Kd α) (t : TypeId) (wf : α → Prop) : Prop :=
  ∀ (H : Type) (enc : TypeId × Value → H) (W : World) (base : Nat) (spare : Nat → Bool) (held : Bool) (fuel : Nat) (cs : List Value) (x : DataW H × List MemPlace),
    DataW.trod enc Tryd.prog W base spare held fuel t cs = some x → ∃ a, d.K W a cs ∧ wf a
theorem opens_int {t : TypeId} {k : IntKind} (ht : Tryd.prog.underlying t = some (.int k)) : Opens (Kd.int k) t (fun n => (Lit.int k n).wf = true) := by
  intro H enc W base spare held fuel cs x h
  obtain ⟨n, rfl, _, hw⟩ := DataW.trod_int ht h
  exact ⟨n, rfl, hw⟩
theorem opens_bool {t : TypeId} (ht : Tryd.prog.underlying t = some .bool) : Opens Kd.bool t (fun _ => True) := by
  intro H enc W base spare held fuel cs x h
  obtain ⟨n, rfl, _⟩ := DataW.trod_bool ht h
  exact ⟨n, rfl, trivial⟩
theorem opens_string {t : TypeId} (ht : Tryd.prog.underlying t = some .string) : Opens Kd.string t (fun s => s.size ≤ maxLen) := by
  intro H enc W base spare held fuel cs x h
  obtain ⟨n, rfl, _, hw⟩ := DataW.trod_string ht h
  exact ⟨n, rfl, hw⟩
theorem Opens.weak {α : Type} {d : Kd α} {t : TypeId} {wf wf' : α → Prop} (h : Opens d t wf) (hw : ∀ a, wf a → wf' a) : Opens d t wf' := by
  intro H enc W base spare held fuel cs x hx
  obtain ⟨a, h1, h2⟩ := h H enc W base spare held fuel cs x hx
  exact ⟨a, h1, hw a h2⟩
theorem rows_exist {α : Type} (P : Nat → α → Prop) : ∀ n, (∀ i, i < n → ∃ y, P i y) → ∃ xs : List α, xs.length = n ∧ ∀ i y, xs[i]? = some y → P i y
  | 0, _ => ⟨[], rfl, fun i y h => by simp at h⟩
  | n + 1, h => by
    obtain ⟨xs, hl, hx⟩ := rows_exist P n (fun i hi => h i (by omega))
    obtain ⟨y, hy⟩ := h n (by omega)
    refine ⟨xs ++ [y], by simp [hl], fun i z hz => ?_⟩
    by_cases hi : i < xs.length
    · rw [List.getElem?_append_left hi] at hz
      exact hx i z hz
    · have hlt := (List.getElem?_eq_some_iff.1 hz).1
      have e : i = n := by simp [hl] at hlt; omega
      subst e
      have : z = y := by rw [List.getElem?_append_right (by omega), hl] at hz; simpa using hz.symm
      rw [this]
      exact hy
theorem add_add (a : Addr) (m j : Nat) : (a.add m).add j = a.add (m + j) := by
  unfold Addr.add
  by_cases hm : m = 0
  · subst hm
    simp
  · by_cases hj : j = 0
    · subst hj
      simp [hm]
    · simp [hm, hj, Nat.add_assoc]
theorem opens_slice {α : Type} {d : Kd α} {t e : TypeId} {wf : α → Prop} (ht : Tryd.prog.underlying t = some (.slice e)) (he : Opens d e wf) (hs : Tryd.prog.cellsOf e = d.sz) : Opens (Kd.slice e d) t (fun xs => ∀ x ∈ xs, wf x) := by
  intro H enc W base spare held fuel cs x h
  rcases DataW.trod_slice ht h with ⟨rfl, _⟩ | ⟨a, len, cap, elems, rest, n, _, rfl, rfl, hb, hl, hm, hlen, hel, _, _⟩
  · exact ⟨[], ⟨none, 0, rfl, Nat.le_refl _, ⟨rfl, Nat.zero_le _, fun h => absurd h (by simp)⟩⟩, fun x hx => by cases hx⟩
  · obtain ⟨xs, hxl, hx⟩ := rows_exist (fun i (y : α) => (∃ c, c.length = d.sz ∧ d.K W y c ∧ ∀ j u, c[j]? = some u → W.cell? (a.add (i * d.sz + j)) = some u) ∧ wf y) len (fun i hi => by
      have h1 := hel i hi
      have h2 : elems[i]? = some elems[i] := List.getElem?_eq_getElem (by omega)
      rw [h2, Option.bind_eq_some_iff] at h1
      obtain ⟨c, hc, hy⟩ := h1
      obtain ⟨_, hcl, hcell⟩ := World.cells?_some hc
      obtain ⟨y, hK, hw⟩ := he H enc W base spare held n c _ hy
      refine ⟨y, ⟨c, by rw [hcl, hs], hK, fun j u hu => ?_⟩, hw⟩
      have hj : j < Tryd.prog.cellsOf e := by rw [← hcl]; exact (List.getElem?_eq_some_iff.1 hu).1
      have := hcell j hj
      rw [hu, add_add, hs] at this
      exact this)
    refine ⟨xs, ⟨some a, cap, by rw [hxl], by omega, ⟨rfl, by unfold maxLen at hm; omega, fun _ => ⟨a, rfl, fun j p hp => ?_⟩⟩⟩, fun y hy => ?_⟩
    · obtain ⟨⟨c, h1, h2, h3⟩, _⟩ := hx j p hp
      exact ⟨c, h1, h2, h3⟩
    · obtain ⟨i, hi, rfl⟩ := List.getElem_of_mem hy
      exact (hx i _ (List.getElem?_eq_getElem hi)).2
theorem struct_get {H : Type} {enc : TypeId × Value → H} {W : World} {base : Nat} {spare : Nat → Bool} {held : Bool} {fuel : Nat} {t : TypeId} {cs : List Value} {x : DataW H × List MemPlace} {fs : Array Field} (ht : Tryd.prog.underlying t = some (.struct fs))
    (h : DataW.trod enc Tryd.prog W base spare held fuel t cs = some x) : cs.length = Tryd.prog.cellsOf t ∧ ∀ (i ty off m : Nat), (fs[i]?).map (fun f => (f.type, f.offset)) = some (ty, off) → Tryd.prog.cellsOf ty = m →
      ∃ y n, DataW.trod enc Tryd.prog W base spare held n ty ((cs.drop off).take m) = some y := by
  obtain ⟨xs, n, _, _, hl, hxs, hf⟩ := DataW.trod_struct ht h
  refine ⟨hl, fun i ty off m hi hm => ?_⟩
  obtain ⟨f, hi, he⟩ := Option.map_eq_some_iff.1 hi
  have hlt : i < fs.size := by
    rcases Nat.lt_or_ge i fs.size with h | h
    · exact h
    · rw [Array.getElem?_eq_none h] at hi; cases hi
  have h1 := hf i f hi
  rw [List.getElem?_eq_getElem (by omega)] at h1
  injection he with e1 e2
  subst e1
  subst e2
  subst hm
  exact ⟨_, n, h1⟩
theorem cells73 : Tryd.prog.cellsOf 73 = 4 := by kernel_rfl
theorem cells75_ : Tryd.prog.cellsOf 75 = 9 := by kernel_rfl
theorem cells98 : Tryd.prog.cellsOf 98 = 5 := by kernel_rfl
theorem cells70 : Tryd.prog.cellsOf 70 = 5 := by kernel_rfl
theorem cells28 : Tryd.prog.cellsOf 28 = 3 := by kernel_rfl
theorem cells3 : Tryd.prog.cellsOf 3 = 1 := by kernel_rfl
theorem cells2 : Tryd.prog.cellsOf 2 = 1 := by kernel_rfl
theorem cells71 : Tryd.prog.cellsOf 71 = 1 := by kernel_rfl
theorem cells9 : Tryd.prog.cellsOf 9 = 1 := by kernel_rfl
theorem cells4 : Tryd.prog.cellsOf 4 = 1 := by kernel_rfl
theorem cells40 : Tryd.prog.cellsOf 40 = 1 := by kernel_rfl
theorem cells67 : Tryd.prog.cellsOf 67 = 1 := by kernel_rfl
theorem cells68 : Tryd.prog.cellsOf 68 = 1 := by kernel_rfl
theorem cells26 : Tryd.prog.cellsOf 26 = 1 := by kernel_rfl
theorem wf_i {n : Int} (h : (Lit.int .i64 n).wf = true) : -9223372036854775808 ≤ n ∧ n < 9223372036854775808 := by
  simp [Lit.wf, IntKind.min, IntKind.max, IntKind.signed, IntKind.bits] at h
  omega
theorem wf_u {n : Int} (h : (Lit.int .u64 n).wf = true) : 0 ≤ n ∧ n < 18446744073709551616 := by
  simp [Lit.wf, IntKind.min, IntKind.max, IntKind.signed, IntKind.bits] at h
  omega
end Go.Proofs.YtjgomlcdmpcoaaaDoor.H
namespace Go.Proofs.YtjgomlcdmpcoaaaDoor.H
open Go.RowKit Go.Proofs.YtjgomlcdmpcoaaaDoorW.PrintWords Go.Proofs.YtjgomlcdmpcoaaaDoorW.PrintLast Go.Proofs.YtjgomlcdmpcoaaaDoorW.PrintMore
set_option linter.unusedVariables false
def cr1 (c : Int) : Int := if (bits .and .u32 c 1 == 1) = true then bits .xor .u32 (c / 2) 2197175160 else c / 2
def crN : Nat → Int → Int
  | 0, c => c
  | n + 1, c => crN n (cr1 c)
def crB (c b : Int) : Int := crN 8 (bits .xor .u32 c (b % 4294967296))
def crL (c : Int) (l : List UInt8) : Int := l.foldl (fun c b => crB c (b.toNat : Int)) c
def sumI (s : ByteArray) : Int := bits .xor .u32 IntKind.u32.max (crL 4294967295 s.data.toList)
theorem bits_u32 (op : BinOp) (a b : Int) : 0 ≤ bits op .u32 a b ∧ bits op .u32 a b < 4294967296 := by
  have h : ∀ x : Int, 0 ≤ IntKind.u32.wrap x ∧ IntKind.u32.wrap x < 4294967296 := fun x => by rw [IntKind.wrap_u32']; omega
  cases op <;> exact h _
theorem cr1_bd (c : Int) (h0 : 0 ≤ c) (h1 : c < 4294967296) : 0 ≤ cr1 c ∧ cr1 c < 4294967296 := by
  unfold cr1
  split
  · exact bits_u32 _ _ _
  · omega
set_option maxHeartbeats 1000000 in
theorem sum_calls (s : ByteArray) (w : World) (hs : s.size ≤ maxLen) : Calls Tryd.prog 132 #[.string s] w fun e w' => e = .returned (.int .u32 (sumI s)) ∧ w = w' := by
  unfold maxLen at hs
  go_enter Tryd.func132, Tryd.ntmps132
  go_wp2
  go_loop [3, 7] (fun c i => ∃ k : Nat, ∃ x : Int, k ≤ s.size ∧ i = .int .i64 k ∧ c = .int .u32 x ∧ 0 ≤ x ∧ x < 4294967296 ∧ Aside0 (crL 4294967295 s.data.toList = crL x (s.data.toList.drop k))) (fun _ i => s.size - (intOf i).toNat)
  case atStart => exact ⟨0, _, Nat.zero_le _, rfl, rfl, by decide, by decide, ⟨rfl⟩⟩
  case round =>
    obtain ⟨k, x, hk, rfl, rfl, hx0, hx1, HC⟩ := hrel
    by_cases hlt : k < s.size
    · have hd : s.data.toList.drop k = s[k] :: s.data.toList.drop (k + 1) := by
        have := List.drop_eq_getElem_cons (l := s.data.toList) (i := k) (by rw [Array.length_toList]; exact hlt)
        rw [this]; rfl
      rw [hd] at HC
      have hy := bits_u32 .xor x ((s[k].toNat : Int) % 4294967296)
      have HC2 : Aside0 (crL 4294967295 s.data.toList = crL (crN 8 (bits .xor .u32 x ((s[k].toNat : Int) % 4294967296))) (s.data.toList.drop (k + 1))) := ⟨HC.out⟩
      clear HC hd
      have HY := Aside0.mk hy
      clear hy
      go_wp2
      generalize bits .xor .u32 x ((s[k].toNat : Int) % 4294967296) = y at HC2 HY ⊢
      obtain ⟨hy0, hy1⟩ := HY.out
      clear HY
      go_loop [3, 16] (fun c j => ∃ n : Nat, ∃ z : Int, n ≤ 8 ∧ j = .int .i64 n ∧ c = .int .u32 z ∧ 0 ≤ z ∧ z < 4294967296 ∧ Aside0 (crN 8 y = crN (8 - n) z)) (fun _ j => 8 - (intOf j).toNat)
      case atStart => exact ⟨0, _, by decide, rfl, rfl, hy0, hy1, ⟨rfl⟩⟩
      case round =>
        obtain ⟨n, z, hn, rfl, rfl, hz0, hz1, HZ⟩ := hrel
        by_cases hnl : n < 8
        · have e8 : 8 - n = (8 - (n + 1)) + 1 := by omega
          rw [e8] at HZ
          have bd := cr1_bd z hz0 hz1
          have HB := Aside0.mk bd
          clear bd e8
          cases hq : (bits .and .u32 z 1 == 1) with
          | true =>
            have HZ2 : Aside0 (crN 8 y = crN (8 - (n + 1)) (bits .xor .u32 (z / 2) 2197175160) ∧ cr1 z = bits .xor .u32 (z / 2) 2197175160) := ⟨by rw [HZ.out, crN]; unfold cr1; rw [if_pos hq]; exact ⟨rfl, rfl⟩⟩
            clear HZ
            go_wp2
            go_round
            case rel => exact ⟨n + 1, _, by omega, by go_num, rfl, by rw [← HZ2.out.2]; exact HB.out.1, by rw [← HZ2.out.2]; exact HB.out.2, ⟨HZ2.out.1⟩⟩
            case measure => simp [intOf]; omega
          | false =>
            have HZ2 : Aside0 (crN 8 y = crN (8 - (n + 1)) (z / 2) ∧ cr1 z = z / 2) := ⟨by rw [HZ.out, crN]; unfold cr1; rw [if_neg (by rw [hq]; decide)]; exact ⟨rfl, rfl⟩⟩
            clear HZ
            go_wp2
            go_round
            case rel => exact ⟨n + 1, _, by omega, by go_num, rfl, by rw [← HZ2.out.2]; exact HB.out.1, by rw [← HZ2.out.2]; exact HB.out.2, ⟨HZ2.out.1⟩⟩
            case measure => simp [intOf]; omega
        · obtain rfl : n = 8 := by omega
          have hz : crN 8 y = z := HZ.out
          clear HZ hn
          have HZ := Aside0.mk hz
          clear hz
          go_wp2
          go_round
          case rel => exact ⟨k + 1, z, by omega, by go_num, rfl, hz0, hz1, ⟨by rw [HC2.out, HZ.out]⟩⟩
          case measure => simp [intOf]; omega
    · have hd : s.data.toList.drop k = [] := List.drop_eq_nil_of_le (by rw [Array.length_toList]; have : s.data.size = s.size := rfl; omega)
      have HC2 : Aside0 (crL 4294967295 s.data.toList = x) := ⟨by rw [HC.out, hd]; rfl⟩
      clear HC hd
      go_wp2
      go_ret
      exact ⟨by unfold sumI; rw [HC2.out]; rfl, rfl⟩
end Go.Proofs.YtjgomlcdmpcoaaaDoor.H
namespace Go.Proofs.YtjgomlcdmpcoaaaDoor.H
open Go.RowKit Go.Proofs.YtjgomlcdmpcoaaaDoorW.PrintWords Go.Proofs.YtjgomlcdmpcoaaaDoorW.PrintLast Go.Proofs.YtjgomlcdmpcoaaaDoorW.PrintMore
set_option linter.unusedVariables false
def four (c : Int) : List Int := [c / 16777216, c / 65536 % 256, c / 256 % 256, c % 256]
def sealB (s : ByteArray) : ByteArray := s ++ strOfNums (four (sumI s))
theorem sumI_bd (s : ByteArray) : 0 ≤ sumI s ∧ sumI s < 4294967296 := bits_u32 _ _ _
theorem four_string (c : Int) (w : World) : (convert 61 9 (Value.slice (some { block := w.heap.size, off := 0 }) 4 4)).run Tryd.prog (w.alloc (Obj.cells #[Value.int IntKind.u8 (c / 16777216), Value.int IntKind.u8 (c / 65536 % 256), Value.int IntKind.u8 (c / 256 % 256), Value.int IntKind.u8 (c % 256)] 5)) = .ok (.string (strOfNums (four c))) (w.alloc (Obj.cells #[Value.int IntKind.u8 (c / 16777216), Value.int IntKind.u8 (c / 65536 % 256), Value.int IntKind.u8 (c / 256 % 256), Value.int IntKind.u8 (c % 256)] 5)) :=
  own_string (base := 0) (e' := 5) Tryd.underlying61 Tryd.underlying5 Tryd.underlying9 (World.ownsRow_lit (base := 0) (e := 5) (size := 1) w (nums .u8 (four c)).toArray 4 (Nat.zero_le _) (by decide) (by simp [nums, four]))
set_option maxRecDepth 100000 in
set_option maxHeartbeats 1000000 in
theorem seal_calls (s : ByteArray) (w : World) (hs : s.size + 4 ≤ maxLen) : Calls Tryd.prog 78 #[.string s] w fun e w' => e = .returned (.string (sealB s)) ∧ Below w.heap.size w w' := by
  have hbd := sumI_bd s
  have hc := Lib.hid (sum_calls s w (by unfold maxLen at hs ⊢; omega))
  unfold maxLen at hs
  have hR : sealB s = s ++ strOfNums (four (sumI s)) := rfl
  generalize sealB s = R at hR ⊢
  have HR := Lib.hid hR
  clear hR
  generalize sumI s = c at hbd hc HR
  obtain ⟨h0, h1⟩ := hbd
  have hz4 : (strOfNums (four c)).size = 4 := rfl
  have hz5 : ¬ 2 ^ 63 - 1 < s.size + 4 := by omega
  have hcv := Lib.hid (four_string c w)
  have hcw := hcv.out
  clear hcv
  go_enter Tryd.func78, Tryd.ntmps78
  go_wp2_with (go_at_call 132; refine hc.out.mono ?_; rintro e w' ⟨rfl, rfl⟩)
  go_ret
  refine ⟨?_, below_alloc (Below.refl _ _) _⟩
  rw [HR.out]
  rfl
end Go.Proofs.YtjgomlcdmpcoaaaDoor.H

namespace Go.Proofs.YtjgomlcdmpcoaaaDoor.H
open Go.RowKit Go.Proofs.YtjgomlcdmpcoaaaDoorW.PrintWords Go.Proofs.YtjgomlcdmpcoaaaDoorW.PrintLast Go.Proofs.YtjgomlcdmpcoaaaDoorW.PrintMore
set_option linter.unusedVariables false
def fb (c : Int) : List UInt8 := (four c).map fun n => UInt8.ofNat n.toNat
theorem seal_list (p : ByteArray) : (sealB p).data.toList = p.data.toList ++ fb (sumI p) := by
  unfold sealB fb
  rw [ByteArray.data_append, Array.toList_append, strOfNums_data]
theorem fb_len (c : Int) : (fb c).length = 4 := rfl
theorem seal_size (p : ByteArray) : (sealB p).size = p.size + 4 := by
  have := congrArg List.length (seal_list p)
  rw [List.length_append, fb_len, Array.length_toList, Array.length_toList] at this
  exact this
def bl (s : ByteArray) : List Int := s.data.toList.map fun x => (x.toNat : Int)
theorem bl_at (s : ByteArray) (k : Nat) (hk : k < s.size) : ∃ b : UInt8, s.data.toList[k]? = some b ∧ (bl s).getD k 0 = (b.toNat : Int) := by
  have hk' : k < s.data.toList.length := by rw [Array.length_toList]; exact hk
  refine ⟨s.data.toList[k], List.getElem?_eq_getElem hk', ?_⟩
  unfold bl
  rw [List.getD_eq_getElem?_getD, List.getElem?_map, List.getElem?_eq_getElem hk']
  rfl
end Go.Proofs.YtjgomlcdmpcoaaaDoor.H
namespace Go.Proofs.YtjgomlcdmpcoaaaDoor.H
open Go.RowKit Go.Proofs.YtjgomlcdmpcoaaaDoorW.PrintWords Go.Proofs.YtjgomlcdmpcoaaaDoorW.PrintLast Go.Proofs.YtjgomlcdmpcoaaaDoorW.PrintMore
set_option linter.unusedVariables false
def beL (c : Int) (l : List Int) : Int := l.foldl (fun c b => c * 256 + b) c
theorem or_byte (x b : Int) (h0 : 0 ≤ x) (h1 : x < 72057594037927936) (hb : 0 ≤ b) (hb1 : b < 256) : bits .or .u64 (x * 256) b = x * 256 + b := by
  rw [Go.u64_or (x * 256) b (by omega) (by omega) (by omega) (by omega)]
  have e : (x * 256).toNat = 2 ^ 8 * x.toNat := by omega
  rw [e, ← Nat.two_pow_add_eq_or_of_lt (by omega : b.toNat < 2 ^ 8)]
  omega
end Go.Proofs.YtjgomlcdmpcoaaaDoor.H
namespace Go.Proofs.YtjgomlcdmpcoaaaDoor.H
open Go.RowKit Go.Proofs.YtjgomlcdmpcoaaaDoorW.PrintWords Go.Proofs.YtjgomlcdmpcoaaaDoorW.PrintLast Go.Proofs.YtjgomlcdmpcoaaaDoorW.PrintMore
set_option linter.unusedVariables false
def WB (T : TypeId) (w : World) (g : Nat) (bs : List Int) : Prop :=
  ∃ v, w.heap[g]? = some (.cells #[v] T (0, 0)) ∧ w.ownsRow (g + 1) 5 1 v bs.length (nums .u8 bs)
structure Wr (g : Nat) (w w' : World) : Prop where
  below : Below g w w'
  block : ∀ i, i < w.heap.size → i ≠ g → (∀ cs fr, w.heap[i]? ≠ some (.cells cs 5 fr)) → w'.heap[i]? = w.heap[i]?
theorem Wr.refl (g : Nat) (w : World) : Wr g w w := ⟨Below.refl _ _, fun _ _ _ _ => rfl⟩
theorem Wr.trans {g : Nat} {a b c : World} (h : Wr g a b) (k : Wr g b c) : Wr g a c :=
  ⟨h.below.trans k.below, fun i hi hne ht => by
    have e := h.block i hi hne ht
    rw [k.block i (Nat.lt_of_lt_of_le hi h.below.size) hne (fun cs fr => by rw [e]; exact ht cs fr), e]⟩
theorem Wr.of_below {g : Nat} {w w' : World} (h : Below w.heap.size w w') (hg : g ≤ w.heap.size) : Wr g w w' := ⟨h.mono hg, fun i hi _ _ => h.block i hi⟩
theorem Wr.cells {g : Nat} {w w' : World} (h : Wr g w w') {i : Nat} {cs : Array Value} {t : TypeId} {fr : Nat × Nat} (hi : w.heap[i]? = some (.cells cs t fr)) (ht : t ≠ 5) (hne : i ≠ g) : w'.heap[i]? = some (.cells cs t fr) := by
  rw [h.block i (lt_of_block hi) hne (fun cs' fr' e => by rw [hi] at e; injection e with e; injection e with _ e _; exact ht e)]
  exact hi
theorem Wr.size {g : Nat} {w w' : World} (h : Wr g w w') : w.heap.size ≤ w'.heap.size := h.below.size
theorem WB.lt {T : TypeId} {w : World} {g : Nat} {bs : List Int} (h : WB T w g bs) : g < w.heap.size := by
  obtain ⟨v, h, _⟩ := h
  exact lt_of_block h
theorem WB.below {T : TypeId} {w w' : World} {g : Nat} {bs : List Int} (h : WB T w g bs) (hb : Below w.heap.size w w') : WB T w' g bs := by
  obtain ⟨v, h1, h2⟩ := h
  exact ⟨v, blk_below h1 hb, pw_own_below h2 hb⟩
theorem blk_cell {w : World} {i j : Nat} {cs : Array Value} {t : TypeId} {fr : Nat × Nat} {v : Value} (hi : w.heap[i]? = some (.cells cs t fr)) (hj : cs[j]? = some v) : w.cell? ⟨i, j, none⟩ = some v := by
  simp [World.cell?, hi, hj]
theorem own_ne_writer {T : TypeId} {w : World} {g : Nat} {bs : List Int} {v : Value} (h : w.ownsRow (g + 1) 5 1 v bs.length (nums .u8 bs)) : v.ownBlock ≠ some g := by
  rcases h.2 with ⟨rfl, _⟩ | ⟨g', cap, cur, rfl, hg, _⟩
  · simp [Value.ownBlock]
  · simp [Value.ownBlock]; omega
theorem wr_store {T : TypeId} (hT : T ≠ 5) {w W W1 : World} {g : Nat} {bs cs : List Int} {v v' : Value} (hv : w.heap[g]? = some (.cells #[v] T (0, 0))) (ho : w.ownsRow (g + 1) 5 1 v bs.length (nums .u8 bs))
    (hb : Below w.heap.size w W) (hown : W1.ownsRow (g + 1) 5 1 v' (bs.length + cs.length) (nums .u8 bs ++ nums .u8 cs)) (hg : W.grownBy W1 v.ownBlock) :
    WB T (W1.setCell ⟨g, 0, none⟩ v') g (bs ++ cs) ∧ Wr g w (W1.setCell ⟨g, 0, none⟩ v') := by
  have hlt := lt_of_block hv
  have hne := own_ne_writer (T := T) ho
  have hgW : W1.heap[g]? = some (.cells #[v] T (0, 0)) := by
    rw [hg.block g (Nat.lt_of_lt_of_le hlt hb.size) (fun e => hne e.symm), hb.block g hlt]; exact hv
  have e : nums .u8 bs ++ nums .u8 cs = nums .u8 (bs ++ cs) := by simp [nums]
  refine ⟨⟨v', one_setCell hgW, ?_⟩, ?_, ?_⟩
  · rw [List.length_append, ← e]
    exact ownsRow_setCell_other hown (a := ⟨g, 0, none⟩) (own_ne_writer (T := T) (bs := bs ++ cs) (w := W1) (by rw [List.length_append, ← e]; exact hown)) v'
  · refine Below.setCell (p := ⟨g, 0, none⟩) ?_ (Nat.le_refl _) _
    refine ((hb.mono (Nat.le_of_lt hlt)).trans ⟨hg.os, hg.tape, hg.output, hg.size, fun k hk => hg.block k (by have := hb.size; omega) (fun e => ?_)⟩)
    have := own_base ho k e.symm
    omega
  · intro i hi hig ht
    rw [Below.heap_setCell _ _ _ _ hig]
    refine (hg.block i (Nat.lt_of_lt_of_le hi hb.size) (fun e => ?_)).trans (hb.block i hi)
    obtain ⟨cells, hc⟩ := own_typed ho i e.symm
    exact ht _ _ hc
theorem wr_keepB {T : TypeId} {wr W w1 : World} {g : Nat} {v : Value} {bs : List Int} (hv : wr.heap[g]? = some (.cells #[v] T (0, 0))) (ho : wr.ownsRow (g + 1) 5 1 v bs.length (nums .u8 bs)) (hb : Below wr.heap.size wr W) (hg : W.grownBy w1 v.ownBlock) :
    w1.drew.cell? ⟨g, 0, none⟩ = some v ∧ w1.drew.frozen? ⟨g, 0, none⟩ = false := by
  have hlt := lt_of_block hv
  have hgW : w1.heap[g]? = some (.cells #[v] T (0, 0)) := by
    rw [hg.block g (Nat.lt_of_lt_of_le hlt hb.size) (fun e => own_ne_writer (T := T) ho e.symm), hb.block g hlt]; exact hv
  exact ⟨cell_of_one (t := T) hgW, free_of_one (t := T) hgW⟩
theorem wr_keepB' {T : TypeId} {wr W w1 : World} {g : Nat} {v : Value} {bs : List Int} (hv : wr.heap[g]? = some (.cells #[v] T (0, 0))) (ho : wr.ownsRow (g + 1) 5 1 v bs.length (nums .u8 bs)) (hb : Below wr.heap.size wr W) (hg : W.grownBy w1 v.ownBlock) :
    w1.cell? ⟨g, 0, none⟩ = some v ∧ w1.frozen? ⟨g, 0, none⟩ = false := wr_keepB hv ho hb hg
theorem WB.new (T : TypeId) (w : World) : WB T (w.alloc (.cells #[.slice none 0 0] T)) w.heap.size [] :=
  ⟨_, heap_alloc_new w _, by simp [nums], .inl ⟨rfl, rfl⟩⟩
def e8 (n : Int) : List Int := [n / 72057594037927936 % 256, n / 281474976710656 % 256, n / 1099511627776 % 256, n / 4294967296 % 256, n / 16777216 % 256, n / 65536 % 256, n / 256 % 256, n % 256]
theorem e8_len (n : Int) : (e8 n).length = 8 := rfl
end Go.Proofs.YtjgomlcdmpcoaaaDoor.H



namespace Go.Proofs.YtjgomlcdmpcoaaaDoor.H
open Go.RowKit Go.Proofs.YtjgomlcdmpcoaaaDoorW.PrintWords Go.Proofs.YtjgomlcdmpcoaaaDoorW.PrintLast Go.Proofs.YtjgomlcdmpcoaaaDoorW.PrintMore
open Go.Proofs.YtjgomlcdmpcoaaaDoor.D Go.Proofs.YtjgomlcdmpcoaaaDoor
set_option linter.unusedVariables false
theorem e8_get (n : Int) (k : Nat) (hk : k < 8) : IntKind.u8.wrap (n / 2 ^ (8 * (7 - (k : Int))).toNat) = (e8 n).getD k 0 := by
  rw [IntKind.wrap_u8]
  match k, hk with
  | 0, _ => rfl
  | 1, _ => rfl
  | 2, _ => rfl
  | 3, _ => rfl
  | 4, _ => rfl
  | 5, _ => rfl
  | 6, _ => rfl
  | 7, _ => simp [e8]
set_option maxRecDepth 100000 in
set_option maxHeartbeats 4000000 in
theorem word_calls (g : Nat) (bs : List Int) (n : Int) (w : World) (hw : WB 112 w g bs) (hlen : bs.length ≤ 1000000000) :
    Calls Tryd.prog 128 #[.pointer (some ⟨g, 0, none⟩), .int .u64 n] w fun e w' => e = .returned (.tuple #[]) ∧ WB 112 w' g (bs ++ e8 n) ∧ Wr g w w' := by
  obtain ⟨i0, hi0, hz0, hz1, hz2⟩ := info_parts D.info5
  have HW := Aside0.mk hw
  clear hw
  go_enter Tryd.func128, Tryd.ntmps128
  go_wp2
  go_loopg [4, 5] 8 (fun gg _ u5 wr => ∃ k : Nat, k ≤ 8 ∧ 8 - k ≤ gg ∧ u5 = .int .i64 k ∧ Aside0 (WB 112 wr g (bs ++ (e8 n).take k) ∧ Wr g w wr))
  case atStart => exact ⟨0, by omega, by omega, rfl, ⟨by simpa using HW.out, Wr.refl _ _⟩⟩
  case round =>
    obtain ⟨k, hk, hg, rfl, HR⟩ := hrel
    by_cases hlt : k < 8
    · obtain ⟨cur, hcur⟩ : ∃ cur, cur = bs ++ (e8 n).take k := ⟨_, rfl⟩
      rw [← hcur] at HR
      have hL : cur.length + 1 ≤ 140737488355328 := by rw [hcur, List.length_append, List.length_take]; omega
      have hbyte : IntKind.u8.wrap (n / 2 ^ (8 * (7 - (k : Int))).toNat) = (e8 n).getD k 0 := e8_get n k hlt
      have hnext : bs ++ (e8 n).take (k + 1) = cur ++ [(e8 n).getD k 0] := by
        rw [hcur, List.append_assoc, List.take_succ_eq_append_getElem (by rw [e8_len]; exact hlt), List.getD_eq_getElem?_getD, List.getElem?_eq_getElem (by rw [e8_len]; exact hlt)]
        rfl
      have HN := Lib.hid hnext
      have HB := Lib.hid hbyte
      clear hcur hnext hbyte
      obtain ⟨⟨v, hv, ho⟩, hwr⟩ := HR.out
      have c0 := cell_of_one hv
      have f0 := free_of_one hv
      have HV := Aside0.mk hv
      have HO := Aside0.mk ho
      have HWR := Aside0.mk hwr
      clear HR hv ho hwr
      have hL1 : cur.length + 1 ≤ maxLen := by unfold maxLen; omega
      have hL2 : (cur.length + 1) * 1 ≤ 140737488355328 := by omega
      have hL3 : g + 1 ≤ (wr.alloc (Obj.cells #[Value.int IntKind.u8 (IntKind.u8.wrap (n / 2 ^ (8 * (7 - (k : Int))).toNat))] 5)).heap.size := by have := lt_of_block HV.out; simp; omega
      have e1 : IntKind.i64.wrap (7 - (k : Int)) = 7 - (k : Int) := IntWalk.i64_in _ (by omega)
      have e2 : IntKind.i64.wrap (8 * (7 - (k : Int))) = 8 * (7 - (k : Int)) := IntWalk.i64_in _ (by omega)
      have e3 : (0 : Int) ≤ 8 * (7 - (k : Int)) := by omega
      have c2 : ∀ o, (wr.alloc o).cell? ⟨g, 0, none⟩ = some v := fun o => cell_of_one (t := 112) (blk_alloc HV.out o)
      go_wp2_with fail
      go_region_law
        ((refine step_append_lies _ (by rfl) _ _ _ (by rfl) (g + 1) 5 i0 _ 1 1 Tryd.underlying61 hi0 hz0 hz1 hz2 rfl (by omega) v cur.length (nums .u8 cur) (by rfl) (HO.out.alloc _) ⟨wr.heap.size, 0, none⟩ 1 1 (nums .u8 [IntKind.u8.wrap (n / 2 ^ (8 * (7 - (k : Int))).toNat)]) (by rfl) (by rfl) (World.news_of_block (cs := #[_]) (t := 5) (fr := (0, 0)) (heap_alloc_new wr _)) (by simp [nums, Value.oneCell']) (by omega) hL1 hL2 hL3 (wr.heap.size + 1) (by simp) ?_; intro gg cap w1 hown1 hgrow hat hlt1; have c1 := (wr_keepB' HV.out HO.out (below_drew (below_alloc (Below.refl _ _) _)) hgrow).1; have f1 := (wr_keepB' HV.out HO.out (below_drew (below_alloc (Below.refl _ _) _)) hgrow).2))
      all_goals
        have hst := wr_store (T := 112) (by decide) HV.out HO.out (below_drew (below_alloc (Below.refl _ _) _)) hown1 hgrow
        rw [HB.out, ← HN.out] at hst
        have HS := Aside0.mk hst
        clear hst hown1 hgrow e1 e2 e3 c2 hL1 hL2 hL3 hat
        go_wp2
        go_roundg (8 - (k + 1))
        case measure => omega
        case rel => exact ⟨k + 1, by omega, by omega, by go_num, ⟨HS.out.1, HWR.out.trans HS.out.2⟩⟩
    · obtain rfl : k = 8 := by omega
      go_wp2
      go_end0
      exact ⟨rfl, by simpa [e8] using HR.out.1, HR.out.2⟩
def un64 (n : Int) : Int := n % 18446744073709551616
set_option maxHeartbeats 1000000 in
theorem num_calls (g : Nat) (bs : List Int) (n : Int) (w : World) (hw : WB 112 w g bs) (hlen : bs.length ≤ 1000000000) :
    Calls Tryd.prog 76 #[.pointer (some ⟨g, 0, none⟩), .int .i64 n] w fun e w' => e = .returned (.tuple #[]) ∧ WB 112 w' g (bs ++ e8 (un64 n)) ∧ Wr g w w' := by
  have hc := Lib.hid (word_calls g bs (un64 n) w hw hlen)
  clear hw
  go_enter Tryd.func76, Tryd.ntmps76
  go_wp2_with (go_at_call 128; refine hc.out.mono ?_; rintro e w' ⟨rfl, hw1, hw2⟩)
  go_end0
  exact ⟨rfl, hw1, hw2⟩
def tru (b : Bool) : Int := if b then 1 else 0
set_option maxHeartbeats 1000000 in
theorem truth_calls (g : Nat) (bs : List Int) (b : Bool) (w : World) (hw : WB 112 w g bs) (hlen : bs.length ≤ 1000000000) :
    Calls Tryd.prog 131 #[.pointer (some ⟨g, 0, none⟩), .bool b] w fun e w' => e = .returned (.tuple #[]) ∧ WB 112 w' g (bs ++ e8 (tru b)) ∧ Wr g w w' := by
  cases b with
  | true =>
    have hc := Lib.hid (num_calls g bs 1 w hw hlen)
    clear hw
    go_enter Tryd.func131, Tryd.ntmps131
    go_wp2_with (go_at_call 76; refine hc.out.mono ?_; rintro e w' ⟨rfl, hw1, hw2⟩)
    go_end0
    exact ⟨rfl, hw1, hw2⟩
  | false =>
    have hc := Lib.hid (num_calls g bs 0 w hw hlen)
    clear hw
    go_enter Tryd.func131, Tryd.ntmps131
    go_wp2_with (go_at_call 76; refine hc.out.mono ?_; rintro e w' ⟨rfl, hw1, hw2⟩)
    go_end0
    exact ⟨rfl, hw1, hw2⟩
end Go.Proofs.YtjgomlcdmpcoaaaDoor.H

namespace Go.Proofs.YtjgomlcdmpcoaaaDoor.H
open Go.RowKit Go.Proofs.YtjgomlcdmpcoaaaDoorW.PrintWords Go.Proofs.YtjgomlcdmpcoaaaDoorW.PrintLast Go.Proofs.YtjgomlcdmpcoaaaDoorW.PrintMore
open Go.Proofs.YtjgomlcdmpcoaaaDoor.D Go.Proofs.YtjgomlcdmpcoaaaDoor
set_option linter.unusedVariables false
theorem strCells_nums (s : ByteArray) : Lib.strCells s = nums .u8 (bytesOf s) := by
  unfold Lib.strCells nums bytesOf
  rw [List.map_map]
  rfl
def tx (s : ByteArray) : List Int := e8 (un64 s.size) ++ bytesOf s
theorem tx_len (s : ByteArray) : (tx s).length = 8 + s.size := by unfold tx; rw [List.length_append, e8_len, bytesOf_length]
set_option maxRecDepth 100000 in
set_option maxHeartbeats 1000000 in
theorem text_calls (g : Nat) (bs : List Int) (s : ByteArray) (w : World) (hw : WB 112 w g bs) (hlen : bs.length + s.size + 8 ≤ 1000000000) :
    Calls Tryd.prog 129 #[.pointer (some ⟨g, 0, none⟩), .string s] w fun e w' => e = .returned (.tuple #[]) ∧ WB 112 w' g (bs ++ tx s) ∧ Wr g w w' := by
  obtain ⟨i0, hi0, hz0, hz1, hz2⟩ := info_parts D.info5
  have hc := Lib.hid (num_calls g bs s.size w hw (by omega))
  clear hw
  go_enter Tryd.func129, Tryd.ntmps129
  go_wp2_with fail
  refine hc.out.mono ?_
  rintro e w1 ⟨rfl, hw1, hw2⟩
  obtain ⟨cur, hcur⟩ : ∃ cur, bs ++ e8 (un64 s.size) = cur := ⟨_, rfl⟩
  rw [hcur] at hw1
  obtain ⟨v, hv, ho⟩ := hw1
  have hcl : cur.length = bs.length + 8 := by rw [← hcur, List.length_append, e8_len]
  have HCU := Lib.hid hcur
  clear hcur
  have c0 := cell_of_one hv
  have f0 := free_of_one hv
  have HV := Aside0.mk hv
  have HO := Aside0.mk ho
  have HWR := Aside0.mk hw2
  have hL1 : cur.length + s.size ≤ maxLen := by unfold maxLen; omega
  have hL2 : cur.length + s.size ≤ 140737488355328 := by omega
  have hL3 : g + 1 ≤ w1.heap.size := lt_of_block HV.out
  have HCL := Lib.hid hcl
  clear hv ho hw2 hcl
  go_wp2_with (at_builtin; refine Lib.wpList_append_own_string _ rfl _ _ _ _ rfl (g + 1) 5 i0 Tryd.underlying61 Tryd.underlying9 hi0 hz0 hz1 hz2 v cur.length (nums .u8 cur) rfl HO.out s rfl hL1 hL2 hL3 ?_; intro v2 w2 hown hgrow hnil; rw [strCells_nums] at hown; rw [← bytesOf_length s] at hown; have c1 := (wr_keepB' HV.out HO.out (Below.refl _ _) hgrow).1; have f1 := (wr_keepB' HV.out HO.out (Below.refl _ _) hgrow).2; obtain ⟨A, c, rfl⟩ := own_slice hown; have hst := wr_store (T := 112) (by decide) HV.out HO.out (Below.refl _ _) hown hgrow; have HS := Aside0.mk hst; clear hst hown hgrow hnil hL1 hL2 hL3)
  go_end0
  refine ⟨rfl, ?_, HWR.out.trans HS.out.2⟩
  have := HS.out.1
  rw [← HCU.out] at this
  unfold tx
  rw [← List.append_assoc]
  rw [HCU.out] at this ⊢
  exact this
end Go.Proofs.YtjgomlcdmpcoaaaDoor.H
namespace Go.Proofs.YtjgomlcdmpcoaaaDoor.H
open Go.RowKit Go.Proofs.YtjgomlcdmpcoaaaDoorW.PrintWords Go.Proofs.YtjgomlcdmpcoaaaDoorW.PrintLast Go.Proofs.YtjgomlcdmpcoaaaDoorW.PrintMore
open Go.Proofs.YtjgomlcdmpcoaaaDoor.D Go.Proofs.YtjgomlcdmpcoaaaDoor
set_option linter.unusedVariables false
set_option linter.unusedSimpArgs false
theorem wstep {T : TypeId} {g B : Nat} {w0 W W2 : World} {cur cur2 : List Int} {cs : Array Value} {t : TypeId} {fr : Nat × Nat} (h : WB T W g cur ∧ Wr g w0 W ∧ W.heap[B]? = some (.cells cs t fr)) (ht : t ≠ 5) (hne : B ≠ g)
    (ha : WB T W2 g cur2) (hb : Wr g W W2) : WB T W2 g cur2 ∧ Wr g w0 W2 ∧ W2.heap[B]? = some (.cells cs t fr) := ⟨ha, h.2.1.trans hb, hb.cells h.2.2 ht hne⟩
def cells75 (x : S75) : Array Value := #[.int .i64 x.f0, .string x.f1, .int .i64 x.f2, .int .i64 x.f3, .int .i64 x.f4, .int .i64 x.f5.f0, .int .i64 x.f5.f1, .int .u64 x.f5.f2, .string x.f5.f3]
def colL (x : S75) : List Int := e8 (un64 x.f0) ++ (tx x.f1 ++ (e8 (un64 x.f2) ++ (e8 (un64 x.f3) ++ (e8 (un64 x.f4) ++ (e8 (un64 x.f5.f0) ++ (e8 (un64 x.f5.f1) ++ (e8 x.f5.f2 ++ tx x.f5.f3)))))))
theorem colL_len (x : S75) : (colL x).length = 72 + x.f1.size + x.f5.f3.size := by unfold colL; simp only [List.length_append, e8_len, tx_len]; omega
set_option maxRecDepth 100000 in
set_option maxHeartbeats 4000000 in
theorem column_calls (g : Nat) (bs : List Int) (x : S75) (w : World) (hw : WB 112 w g bs) (hlen : bs.length + x.f1.size + x.f5.f3.size + 72 ≤ 1000000000) :
    Calls Tryd.prog 130 #[.pointer (some ⟨g, 0, none⟩), .agg #[.int .i64 x.f0, .string x.f1, .int .i64 x.f2, .int .i64 x.f3, .int .i64 x.f4, .int .i64 x.f5.f0, .int .i64 x.f5.f1, .int .u64 x.f5.f2, .string x.f5.f3]] w
      fun e w' => e = .returned (.tuple #[]) ∧ WB 112 w' g (bs ++ colL x) ∧ Wr g w w' := by
  have hg := hw.lt
  have hBg : w.heap.size ≠ g := by omega
  have HS := Aside0.mk (show WB 112 (w.alloc (.cells (cells75 x) 75)) g bs ∧ Wr g w (w.alloc (.cells (cells75 x) 75)) ∧ (w.alloc (.cells (cells75 x) 75)).heap[w.heap.size]? = some (.cells (cells75 x) 75 (0, 0)) from
    ⟨hw.below (below_alloc (Below.refl _ _) _), Wr.of_below (below_alloc (Below.refl _ _) _) (Nat.le_of_lt hg), heap_alloc_new w _⟩)
  clear hw
  go_enter Tryd.func130, Tryd.ntmps130
  go_wp2_with fail
  refine (num_calls g _ x.f0 _ HS.out.1 (by (try simp only [List.length_append, e8_len, tx_len]); omega)).mono ?_
  rintro e w2 ⟨rfl, ha, hb⟩
  have n_ := Aside0.mk (wstep HS.out (by decide) hBg ha hb)
  clear HS ha hb
  have HS := n_
  clear n_
  have k1 := blk_cell (j := 1) (v := .string x.f1) HS.out.2.2 rfl
  go_wp2_with fail
  refine (text_calls g _ x.f1 _ HS.out.1 (by (try simp only [List.length_append, e8_len, tx_len]); omega)).mono ?_
  rintro e w2 ⟨rfl, ha, hb⟩
  have n_ := Aside0.mk (wstep HS.out (by decide) hBg ha hb)
  clear HS ha hb k1
  have HS := n_
  clear n_
  have k2 := blk_cell (j := 2) (v := .int .i64 x.f2) HS.out.2.2 rfl
  go_wp2_with fail
  refine (num_calls g _ x.f2 _ HS.out.1 (by (try simp only [List.length_append, e8_len, tx_len]); omega)).mono ?_
  rintro e w2 ⟨rfl, ha, hb⟩
  have n_ := Aside0.mk (wstep HS.out (by decide) hBg ha hb)
  clear HS ha hb k2
  have HS := n_
  clear n_
  have k3 := blk_cell (j := 3) (v := .int .i64 x.f3) HS.out.2.2 rfl
  go_wp2_with fail
  refine (num_calls g _ x.f3 _ HS.out.1 (by (try simp only [List.length_append, e8_len, tx_len]); omega)).mono ?_
  rintro e w2 ⟨rfl, ha, hb⟩
  have n_ := Aside0.mk (wstep HS.out (by decide) hBg ha hb)
  clear HS ha hb k3
  have HS := n_
  clear n_
  have k4 := blk_cell (j := 4) (v := .int .i64 x.f4) HS.out.2.2 rfl
  go_wp2_with fail
  refine (num_calls g _ x.f4 _ HS.out.1 (by (try simp only [List.length_append, e8_len, tx_len]); omega)).mono ?_
  rintro e w2 ⟨rfl, ha, hb⟩
  have n_ := Aside0.mk (wstep HS.out (by decide) hBg ha hb)
  clear HS ha hb k4
  have HS := n_
  clear n_
  have k5 := blk_cell (j := 5) (v := .int .i64 x.f5.f0) HS.out.2.2 rfl
  go_wp2_with fail
  refine (num_calls g _ x.f5.f0 _ HS.out.1 (by (try simp only [List.length_append, e8_len, tx_len]); omega)).mono ?_
  rintro e w2 ⟨rfl, ha, hb⟩
  have n_ := Aside0.mk (wstep HS.out (by decide) hBg ha hb)
  clear HS ha hb k5
  have HS := n_
  clear n_
  have k6 := blk_cell (j := 6) (v := .int .i64 x.f5.f1) HS.out.2.2 rfl
  go_wp2_with fail
  refine (word_calls g _ (un64 x.f5.f1) _ HS.out.1 (by (try simp only [List.length_append, e8_len, tx_len]); omega)).mono ?_
  rintro e w2 ⟨rfl, ha, hb⟩
  have n_ := Aside0.mk (wstep HS.out (by decide) hBg ha hb)
  clear HS ha hb k6
  have HS := n_
  clear n_
  have k7 := blk_cell (j := 7) (v := .int .u64 x.f5.f2) HS.out.2.2 rfl
  go_wp2_with fail
  refine (word_calls g _ x.f5.f2 _ HS.out.1 (by (try simp only [List.length_append, e8_len, tx_len]); omega)).mono ?_
  rintro e w2 ⟨rfl, ha, hb⟩
  have n_ := Aside0.mk (wstep HS.out (by decide) hBg ha hb)
  clear HS ha hb k7
  have HS := n_
  clear n_
  have k8 := blk_cell (j := 8) (v := .string x.f5.f3) HS.out.2.2 rfl
  go_wp2_with fail
  refine (text_calls g _ x.f5.f3 _ HS.out.1 (by (try simp only [List.length_append, e8_len, tx_len]); omega)).mono ?_
  rintro e w2 ⟨rfl, ha, hb⟩
  have n_ := Aside0.mk (wstep HS.out (by decide) hBg ha hb)
  clear HS ha hb k8
  have HS := n_
  clear n_
  go_wp2
  go_end0
  refine ⟨rfl, ?_, HS.out.2.1⟩
  have := HS.out.1
  simp only [List.append_assoc] at this
  exact this
end Go.Proofs.YtjgomlcdmpcoaaaDoor.H
