/- Own texts of this session, packed by its program wip/pp/pack.py: lemmas and walks of functions. -/
import Derived.Test.YtjgomlcdmpcoaaaDoorKCC8
import Derived.Test.YtjgomlcdmpcoaaaDoorKCC9
namespace Go.Proofs.YtjgomlcdmpcoaaaDoor.H
open Go.RowKit Go.Proofs.YtjgomlcdmpcoaaaDoorW.PrintWords Go.Proofs.YtjgomlcdmpcoaaaDoorW.PrintLast Go.Proofs.YtjgomlcdmpcoaaaDoorW.PrintMore
open Go.Proofs.YtjgomlcdmpcoaaaDoor.D Go.Proofs.YtjgomlcdmpcoaaaDoor
set_option linter.unusedVariables false
set_option linter.unusedSimpArgs false
abbrev nm (s : ByteArray) : List UInt8 := s.data.toList
def tcolsB (next : Int) : List Int → List (List UInt8) → List S75 → Bool
  | _, _, [] => true
  | ids, names, c :: r => fitsB next ids c.f0 && (!names.contains (nm c.f1) && (columnB c && tcolsB next (ids ++ [c.f0]) (names ++ [nm c.f1]) r))
def tindsB (t : S70) : List Int → List (List UInt8) → List S98 → Bool
  | _, _, [] => true
  | ids, names, x :: r => fitsB t.f4 ids x.f0 && (!names.contains (nm x.f1) && (indexB t x && tindsB t (ids ++ [x.f0]) (names ++ [nm x.f1]) r))
def keyB (t : S70) : Bool := match t.f2 with
  | [] => false
  | c :: _ => c.f3 == 4 && (c.f4 == 4 && c.f5.f0 == 0)
theorem keyB_of (t : S70) (h : 0 < t.f2.length) : keyB t = (t.f2[0].f3 == 4 && (t.f2[0].f4 == 4 && t.f2[0].f5.f0 == 0)) := by
  obtain ⟨f0, f1, f2, f3, f4⟩ := t
  cases f2 with
  | nil => exact absurd h (by simp)
  | cons c r => rfl
def tableB (t : S70) : Bool := decide (1 ≤ t.f4) && (decide (t.f4 ≤ 60000) && (decide (1 ≤ t.f2.length) && (decide (t.f2.length ≤ 8) && (decide (t.f3.length ≤ 4) && (nameB t.f1 && (tcolsB t.f4 [] [] t.f2 && (tindsB t (t.f2.map (·.f0)) [] t.f3 && keyB t)))))))
def ColWf (c : S75) : Prop := -9223372036854775808 ≤ c.f0 ∧ c.f0 < 9223372036854775808 ∧ c.f1.size ≤ maxLen ∧ ValWf c.f5
def IndWf (x : S98) : Prop := -9223372036854775808 ≤ x.f0 ∧ x.f0 < 9223372036854775808 ∧ x.f1.size ≤ maxLen
def TabWf (t : S70) : Prop := t.f1.size ≤ maxLen ∧ (∀ c ∈ t.f2, ColWf c) ∧ ∀ x ∈ t.f3, IndWf x
structure TSt (w wr : World) (H : Nat) (bx : Array Value) (ids : List Int) (cols inds : List (List UInt8)) : Prop where
  lt : w.heap.size < H
  below : Below w.heap.size w wr
  box : wr.heap[w.heap.size]? = some (.cells bx 70 (0, 0))
  idv : wr.heap[H + 1 + 1 + 1]? = some (.cells #[.map (some H)] 158 (0, 0))
  m0 : CntM 3 litI wr H ids.length ids
  m1 : CntM 9 litS wr (H + 1) cols.length cols
  m2 : CntM 9 litS wr (H + 1 + 1) inds.length inds
section
variable {w wr w' : World} {H : Nat} {bx : Array Value} {ids ids' : List Int} {cols cols' inds inds' : List (List UInt8)}
theorem TSt.size (h : TSt w wr H bx ids cols inds) : H + 1 + 1 + 1 < wr.heap.size := lt_of_block h.idv
theorem TSt.step (h : TSt w wr H bx ids cols inds) (hb : Below wr.heap.size wr w') : TSt w w' H bx ids cols inds :=
  ⟨h.lt, below_then h.below h.below.size hb, blk_below h.box hb, blk_below h.idv hb, h.m0.below hb, h.m1.below hb, h.m2.below hb⟩
theorem grown_base {b : Nat} (h : TSt w wr H bx ids cols inds) (hg : wr.grownBy w' (some b)) (hb : w.heap.size ≤ b) : Below w.heap.size w w' :=
  h.below.grown hg h.below.size (fun k e => by injection e with e; omega)
theorem TSt.up0 (h : TSt w wr H bx ids cols inds) (hm : CntM 3 litI w' H ids'.length ids') (hg : wr.grownBy w' (some H)) : TSt w w' H bx ids' cols inds :=
  ⟨h.lt, grown_base h hg (Nat.le_of_lt h.lt), (hg.block _ (lt_of_block h.box) (fun e => by have := h.lt; injection e with e; omega)).trans h.box, (hg.block _ (lt_of_block h.idv) (fun e => by injection e with e; omega)).trans h.idv, hm,
    h.m1.kept hg (fun e => by injection e with e; omega), h.m2.kept hg (fun e => by injection e with e; omega)⟩
theorem TSt.up1 (h : TSt w wr H bx ids cols inds) (hm : CntM 9 litS w' (H + 1) cols'.length cols') (hg : wr.grownBy w' (some (H + 1))) : TSt w w' H bx ids cols' inds :=
  ⟨h.lt, grown_base h hg (by have := h.lt; omega), (hg.block _ (lt_of_block h.box) (fun e => by have := h.lt; injection e with e; omega)).trans h.box, (hg.block _ (lt_of_block h.idv) (fun e => by injection e with e; omega)).trans h.idv,
    h.m0.kept hg (fun e => by injection e with e; omega), hm, h.m2.kept hg (fun e => by injection e with e; omega)⟩
theorem TSt.up2 (h : TSt w wr H bx ids cols inds) (hm : CntM 9 litS w' (H + 1 + 1) inds'.length inds') (hg : wr.grownBy w' (some (H + 1 + 1))) : TSt w w' H bx ids cols inds' :=
  ⟨h.lt, grown_base h hg (by have := h.lt; omega), (hg.block _ (lt_of_block h.box) (fun e => by have := h.lt; injection e with e; omega)).trans h.box, (hg.block _ (lt_of_block h.idv) (fun e => by injection e with e; omega)).trans h.idv,
    h.m0.kept hg (fun e => by injection e with e; omega), h.m1.kept hg (fun e => by injection e with e; omega), hm⟩
theorem TSt.new {w1 : World} (hb : Below w.heap.size w w1) (hbox : w1.heap[w.heap.size]? = some (.cells bx 70 (0, 0))) :
    TSt w ((((w1.alloc (.map #[] 0)).alloc (.map #[] 0)).alloc (.map #[] 0)).alloc (.cells #[.map (some w1.heap.size)] 158)) w1.heap.size bx [] [] [] := by
  have a1 := below_alloc (Below.refl _ w1) (.map #[] 0)
  have a2 := below_alloc (Below.refl _ (w1.alloc (.map #[] 0))) (.map #[] 0)
  have a3 := below_alloc (Below.refl _ ((w1.alloc (.map #[] 0)).alloc (.map #[] 0))) (.map #[] 0)
  have a4 := below_alloc (Below.refl _ (((w1.alloc (.map #[] 0)).alloc (.map #[] 0)).alloc (.map #[] 0))) (.cells #[.map (some w1.heap.size)] 158)
  have s1 : (w1.alloc (.map #[] 0)).heap.size = w1.heap.size + 1 := by simp
  have s2 : ((w1.alloc (.map #[] 0)).alloc (.map #[] 0)).heap.size = w1.heap.size + 1 + 1 := by simp
  have s3 : (((w1.alloc (.map #[] 0)).alloc (.map #[] 0)).alloc (.map #[] 0)).heap.size = w1.heap.size + 1 + 1 + 1 := by simp
  refine ⟨lt_of_block hbox, ?_, ?_, ?_, ?_, ?_, ?_⟩
  · exact below_then (below_then (below_then (below_then hb hb.size a1) (by rw [s1]; have := hb.size; omega) a2) (by rw [s2]; have := hb.size; omega) a3) (by rw [s3]; have := hb.size; omega) a4
  · exact blk_below (blk_below (blk_below (blk_below hbox a1) a2) a3) a4
  · have := heap_alloc_new (((w1.alloc (.map #[] 0)).alloc (.map #[] 0)).alloc (.map #[] 0)) (.cells #[.map (some w1.heap.size)] 158)
    rw [s3] at this
    exact this
  · exact (((CntM.new 3 litI w1).below a2).below a3).below a4
  · have := CntM.new 9 litS (w1.alloc (.map #[] 0))
    rw [s1] at this
    exact (this.below a3).below a4
  · have := CntM.new 9 litS ((w1.alloc (.map #[] 0)).alloc (.map #[] 0))
    rw [s2] at this
    exact this.below a4
end
set_option maxRecDepth 100000 in
set_option maxHeartbeats 16000000 in
theorem table_may (t : S70) (hwf : TabWf t) (A2 : Option Addr) (c2 : Nat) (A3 : Option Addr) (c3 : Nat) (w : World) (hG : GL w)
    (hc2 : t.f2.length ≤ c2) (g2 : k75.C w A2 t.f2.length t.f2) (hc3 : t.f3.length ≤ c3) (g3 : k98.C w A3 t.f3.length t.f3) :
    Calls Tryd.prog 74 #[.agg #[.int .i64 t.f0, .string t.f1, .slice A2 t.f2.length c2, .slice A3 t.f3.length c3, .int .i64 t.f4]] w fun e w' => e = .returned (.bool (tableB t)) ∧ Below w.heap.size w w' := by
  have HN := Lib.hid nameCalls
  have HG := Aside0.mk hG
  have HC := Aside0.mk g2
  have HX := Aside0.mk g3
  have HW := Aside0.mk hwf
  have hmm := @run_makeMap Tryd.prog
  have hmf : ∀ (fn : Fn) (first cap : Array Value) (w : World), (Instr.makeFunc fn first cap).run Tryd.prog w = .ok (.func fn first cap) w := fun _ _ _ _ => rfl
  have big2 := g2.2.1
  have big3 := g3.2.1
  have hI : tableB t = (decide (1 ≤ t.f4) && (decide (t.f4 ≤ 60000) && (decide (1 ≤ t.f2.length) && (decide (t.f2.length ≤ 8) && (decide (t.f3.length ≤ 4) && (nameB t.f1 && (tcolsB t.f4 [] [] t.f2 && (tindsB t (t.f2.map (·.f0)) [] t.f3 && keyB t)))))))) := rfl
  generalize tableB t = R at hI ⊢
  obtain ⟨nb, hb⟩ : ∃ nb, nameB t.f1 = nb := ⟨_, rfl⟩
  rw [hb] at hI
  have HNB := Lib.hid hb
  clear hb hG g2 g3 hwf
  have E1 : decide (t.f4 < 1) = !decide (1 ≤ t.f4) := by by_cases h : 1 ≤ t.f4 <;> simp [h] <;> omega
  have E2 : decide (60000 < t.f4) = !decide (t.f4 ≤ 60000) := by by_cases h : t.f4 ≤ 60000 <;> simp [h] <;> omega
  have E3 : decide ((t.f2.length : Int) < 1) = !decide (1 ≤ t.f2.length) := by by_cases h : 1 ≤ t.f2.length <;> simp [h] <;> omega
  have E4 : decide (8 < (t.f2.length : Int)) = !decide (t.f2.length ≤ 8) := by by_cases h : t.f2.length ≤ 8 <;> simp [h] <;> omega
  have E5 : decide (4 < (t.f3.length : Int)) = !decide (t.f3.length ≤ 4) := by by_cases h : t.f3.length ≤ 4 <;> simp [h] <;> omega
  cases q1 : decide (1 ≤ t.f4) with
  | false =>
    rw [q1] at E1 hI
    simp only [Bool.not_false, Bool.not_true] at E1
    have HI := Lib.hid hI
    clear hI q1 E2 E3 E4 E5
    go_enter Tryd.func74, Tryd.ntmps74
    go_wp2
    go_ret
    exact ⟨by rw [HI.out]; rfl, below_alloc (Below.refl _ _) _⟩
  | true =>
    rw [q1] at E1 hI
    cases q2 : decide (t.f4 ≤ 60000) with
    | false =>
      rw [q2] at E2 hI
      simp only [Bool.not_false, Bool.not_true] at E1 E2
      have HI := Lib.hid hI
      clear hI q1 q2 E3 E4 E5
      go_enter Tryd.func74, Tryd.ntmps74
      go_wp2
      go_ret
      exact ⟨by rw [HI.out]; rfl, below_alloc (Below.refl _ _) _⟩
    | true =>
      rw [q2] at E2 hI
      cases q3 : decide (1 ≤ t.f2.length) with
      | false =>
        rw [q3] at E3 hI
        simp only [Bool.not_false, Bool.not_true] at E1 E2 E3
        have HI := Lib.hid hI
        clear hI q1 q2 q3 E4 E5
        go_enter Tryd.func74, Tryd.ntmps74
        go_wp2
        go_ret
        exact ⟨by rw [HI.out]; rfl, below_alloc (Below.refl _ _) _⟩
      | true =>
        rw [q3] at E3 hI
        cases q4 : decide (t.f2.length ≤ 8) with
        | false =>
          rw [q4] at E4 hI
          simp only [Bool.not_false, Bool.not_true] at E1 E2 E3 E4
          have HI := Lib.hid hI
          clear hI q1 q2 q3 q4 E5
          go_enter Tryd.func74, Tryd.ntmps74
          go_wp2
          go_ret
          exact ⟨by rw [HI.out]; rfl, below_alloc (Below.refl _ _) _⟩
        | true =>
          rw [q4] at E4 hI
          cases q5 : decide (t.f3.length ≤ 4) with
          | false =>
            rw [q5] at E5 hI
            simp only [Bool.not_false, Bool.not_true] at E1 E2 E3 E4 E5
            have HI := Lib.hid hI
            clear hI q1 q2 q3 q4 q5
            go_enter Tryd.func74, Tryd.ntmps74
            go_wp2
            go_ret
            exact ⟨by rw [HI.out]; rfl, below_alloc (Below.refl _ _) _⟩
          | true =>
            rw [q5] at E5 hI
            simp only [Bool.not_false, Bool.not_true] at E1 E2 E3 E4 E5
            simp only [Bool.true_and] at hI
            have z3 := of_decide_eq_true q3
            have z4 := of_decide_eq_true q4
            have z5 := of_decide_eq_true q5
            clear q1 q2 q3 q4 q5
            cases nb with
            | false =>
              have HI := Lib.hid hI
              clear hI
              go_enter Tryd.func74, Tryd.ntmps74
              go_wp2_with (go_at_call 33; refine (HN.out _ _ (HG.out.of_below (by repeat (first | exact Below.refl _ _ | apply below_alloc)))).mono ?_; rintro e w1 ⟨rfl, hb1⟩; rw [HNB.out])
              go_ret
              exact ⟨by rw [HI.out]; rfl, below_then (below_alloc (Below.refl _ _) _) (by simp) hb1⟩
            | true =>
              rw [Bool.true_and] at hI
              have HI := Lib.hid hI
              clear hI
              go_enter Tryd.func74, Tryd.ntmps74
              go_wp2_with fail
              refine (HN.out _ _ (HG.out.of_below (by repeat (first | exact Below.refl _ _ | apply below_alloc)))).mono ?_
              rintro e w1 ⟨rfl, hb1⟩
              rw [HNB.out]
              have hbx := blk_below (heap_alloc_new w (.cells #[.int .i64 t.f0, .string t.f1, .slice A2 t.f2.length c2, .slice A3 t.f3.length c3, .int .i64 t.f4] 70)) hb1
              have hbw := below_then (below_alloc (Below.refl _ w) (.cells #[.int .i64 t.f0, .string t.f1, .slice A2 t.f2.length c2, .slice A3 t.f3.length c3, .int .i64 t.f4] 70)) (by simp) hb1
              have HT := Aside0.mk (TSt.new hbw hbx)
              have kb := (pwC HT.out.box 2).trans (rfl : _ = some (Value.slice A2 t.f2.length c2))
              have hsz : w.heap.size < w1.heap.size := lt_of_block hbx
              clear hb1 hbx hbw E1 E2 E3 E4 E5
              go_wp2_with fail
              go_loopg [8, 51] t.f2.length (fun gg _ u wr => ∃ kk : Nat, kk ≤ t.f2.length ∧ t.f2.length - kk ≤ gg ∧ u = .int .i64 kk ∧ Aside0 (TSt w wr w1.heap.size #[.int .i64 t.f0, .string t.f1, .slice A2 t.f2.length c2, .slice A3 t.f3.length c3, .int .i64 t.f4] ((t.f2.take kk).map fun c => c.f0) ((t.f2.take kk).map fun c => nm c.f1) []) ∧ Aside0 (tcolsB t.f4 [] [] t.f2 = tcolsB t.f4 ((t.f2.take kk).map fun c => c.f0) ((t.f2.take kk).map fun c => nm c.f1) (t.f2.drop kk)))
              case atStart => exact ⟨0, Nat.zero_le _, by omega, rfl, ⟨by first | exact HT.out | (simpa using HT.out)⟩, ⟨by simp⟩⟩
              case round =>
                obtain ⟨kk, hkk, hgg, rfl, HT', HCI'⟩ := hrel
                clear HT kb
                by_cases hlt : kk < t.f2.length
                · have hltz : (kk : Int) < (t.f2.length : Int) := by omega
                  have hszr : w1.heap.size + 1 + 1 + 1 < wr.heap.size := HT'.out.size
                  obtain ⟨ad, eA, h0, h1, h2, h3, h4, h5, h6, h7, h8⟩ := at_T75 (Kd.C_below HC.out HT'.out.below) (kk : Int) (by omega) (by omega)
                  have hx : rd_T75 t.f2 (kk : Int) = t.f2[kk] := by unfold rd_T75; simp [List.getD, hlt]
                  rw [hx] at h0 h1 h2 h3 h4 h5 h6 h7 h8
                  simp only [Int.toNat_natCast] at h0 h1 h2 h3 h4 h5 h6 h7 h8
                  cases eA
                  have hW := HW.out.2.1 _ (List.getElem_mem hlt)
                  have hd : t.f2.drop kk = t.f2[kk] :: t.f2.drop (kk + 1) := List.drop_eq_getElem_cons hlt
                  have htk : t.f2.take (kk + 1) = t.f2.take kk ++ [t.f2[kk]] := List.take_succ_eq_append_getElem hlt
                  rw [hd] at HCI'
                  generalize t.f2[kk] = c at h0 h1 h2 h3 h4 h5 h6 h7 h8 hW hd htk HCI'
                  have HWC := Lib.hid hW
                  obtain ⟨ids, hids⟩ : ∃ ids, ((t.f2.take kk).map fun c => c.f0) = ids := ⟨_, rfl⟩
                  obtain ⟨nsC, hns⟩ : ∃ l_, ((t.f2.take kk).map fun c => nm c.f1) = l_ := ⟨_, rfl⟩
                  have hTI := Lib.hid (show ((t.f2.take (kk + 1)).map fun c => c.f0) = ids ++ [c.f0] by rw [htk, ← hids]; simp)
                  have hTN := Lib.hid (show ((t.f2.take (kk + 1)).map fun c => nm c.f1) = nsC ++ [nm c.f1] by rw [htk, ← hns]; simp)
                  rw [hids, hns] at HT' HCI'
                  have hil : ids.length < 50 := by rw [← hids]; simp; omega
                  have hnl : nsC.length < 50 := by rw [← hns]; simp; omega
                  have hst : tcolsB t.f4 ids nsC (c :: t.f2.drop (kk + 1)) = (fitsB t.f4 ids c.f0 && (!nsC.contains (nm c.f1) && (columnB c && tcolsB t.f4 (ids ++ [c.f0]) (nsC ++ [nm c.f1]) (t.f2.drop (kk + 1))))) := rfl
                  have HCI := Lib.hid (HCI'.out.trans hst)
                  have HKS := Lib.hid (keyS hW.2.2.1)
                  have HTB := Aside0.mk (HT'.out.step (below_alloc (Below.refl _ wr) (.cells #[.int .i64 c.f0, .string c.f1, .int .i64 c.f2, .int .i64 c.f3, .int .i64 c.f4, .int .i64 c.f5.f0, .int .i64 c.f5.f1, .int .u64 c.f5.f2, .string c.f5.f3] 75)))
                  clear hx hW hd htk hids hns hst HCI' HT'
                  cases hf : fitsB t.f4 ids c.f0 with
                  | false =>
                    cases hq : nsC.contains (nm c.f1) with
                    | false =>
                      have e0 := count_none hq
                      have e1 : _ = (1 : Int) := count_one e0
                      have hrun := HTB.out.m1.look0 lawS Tryd.underlying108 HKS.out e0
                      have E0 := Lib.hid e0
                      have E1 := Lib.hid e1
                      have HQ := Lib.hid hq
                      have HF := Lib.hid hf
                      clear e0 e1 hq hf
                      go_wp2_with (first | (at_mapUpdate; refine wpList_count rfl _ _ _ 108 rfl lawS Tryd.underlying108 rfl HTB.out.m1 (by omega) (by omega) _ (nm c.f1) rfl HKS.out (injS _) (isS _) _ (by rw [E0.out] <;> rfl) rfl ?_; intro w2 hm2 hg2; have T2 := Aside0.mk (HTB.out.up1 hm2.snoc hg2); have B2_ := Aside0.mk ((hg2.block _ (by simp) (fun e => by injection e with e; have := hszr; omega)).trans (heap_alloc_new wr (.cells #[.int .i64 c.f0, .string c.f1, .int .i64 c.f2, .int .i64 c.f3, .int .i64 c.f4, .int .i64 c.f5.f0, .int .i64 c.f5.f1, .int .u64 c.f5.f2, .string c.f5.f3] 75))); have k0_ := (pwC B2_.out 0).trans (rfl : _ = some (Value.int .i64 c.f0)); clear hrun hm2 hg2) | (go_at_call 123; refine (fits_calls c.f0 t.f4 _ _ _ _ w.heap.size (w1.heap.size + 1 + 1 + 1) w1.heap.size ids w2 HWC.out.1 HWC.out.2.1 T2.out.box T2.out.idv T2.out.m0 (by omega)).mono ?_; rintro e w3 ⟨rfl, hm3, hg3⟩; rw [HF.out]; have T3 := Aside0.mk (T2.out.up0 hm3 hg3); have B3_ := Aside0.mk ((hg3.block _ (lt_of_block B2_.out) (fun e => by injection e with e; have := hszr; omega)).trans B2_.out); clear k0_; skip; clear hm3 hg3))
                      go_ret
                      exact ⟨by rw [HI.out, HCI.out, HF.out]; rfl, T3.out.below⟩
                    | true =>
                      obtain ⟨cq, e0, cq1, cq2'⟩ := count_some hq
                      have cq2 : cq ≤ 100 := by omega
                      have cq3 : 1 < cq + 1 := by omega
                      have e1 := count_one e0
                      clear cq2'
                      have hrun := HTB.out.m1.look0 lawS Tryd.underlying108 HKS.out e0
                      have E0 := Lib.hid e0
                      have E1 := Lib.hid e1
                      have HQ := Lib.hid hq
                      have HF := Lib.hid hf
                      clear e0 e1 hq hf
                      go_wp2_with (first | (at_mapUpdate; refine wpList_count rfl _ _ _ 108 rfl lawS Tryd.underlying108 rfl HTB.out.m1 (by omega) (by omega) _ (nm c.f1) rfl HKS.out (injS _) (isS _) _ (by rw [E0.out] <;> rfl) rfl ?_; intro w2 hm2 hg2; have T2 := Aside0.mk (HTB.out.up1 hm2.snoc hg2); have B2_ := Aside0.mk ((hg2.block _ (by simp) (fun e => by injection e with e; have := hszr; omega)).trans (heap_alloc_new wr (.cells #[.int .i64 c.f0, .string c.f1, .int .i64 c.f2, .int .i64 c.f3, .int .i64 c.f4, .int .i64 c.f5.f0, .int .i64 c.f5.f1, .int .u64 c.f5.f2, .string c.f5.f3] 75))); have k0_ := (pwC B2_.out 0).trans (rfl : _ = some (Value.int .i64 c.f0)); clear hrun hm2 hg2) | (go_at_call 123; refine (fits_calls c.f0 t.f4 _ _ _ _ w.heap.size (w1.heap.size + 1 + 1 + 1) w1.heap.size ids w2 HWC.out.1 HWC.out.2.1 T2.out.box T2.out.idv T2.out.m0 (by omega)).mono ?_; rintro e w3 ⟨rfl, hm3, hg3⟩; rw [HF.out]; have T3 := Aside0.mk (T2.out.up0 hm3 hg3); have B3_ := Aside0.mk ((hg3.block _ (lt_of_block B2_.out) (fun e => by injection e with e; have := hszr; omega)).trans B2_.out); clear k0_; skip; clear hm3 hg3))
                      go_ret
                      exact ⟨by rw [HI.out, HCI.out, HF.out]; rfl, T3.out.below⟩
                  | true =>
                    cases hq : nsC.contains (nm c.f1) with
                    | true =>
                      obtain ⟨cq, e0, cq1, cq2'⟩ := count_some hq
                      have cq2 : cq ≤ 100 := by omega
                      have cq3 : 1 < cq + 1 := by omega
                      have e1 := count_one e0
                      clear cq2'
                      have hrun := HTB.out.m1.look0 lawS Tryd.underlying108 HKS.out e0
                      have E0 := Lib.hid e0
                      have E1 := Lib.hid e1
                      have HQ := Lib.hid hq
                      have HF := Lib.hid hf
                      clear e0 e1 hq hf
                      go_wp2_with (first | (at_mapUpdate; refine wpList_count rfl _ _ _ 108 rfl lawS Tryd.underlying108 rfl HTB.out.m1 (by omega) (by omega) _ (nm c.f1) rfl HKS.out (injS _) (isS _) _ (by rw [E0.out] <;> rfl) rfl ?_; intro w2 hm2 hg2; have T2 := Aside0.mk (HTB.out.up1 hm2.snoc hg2); have B2_ := Aside0.mk ((hg2.block _ (by simp) (fun e => by injection e with e; have := hszr; omega)).trans (heap_alloc_new wr (.cells #[.int .i64 c.f0, .string c.f1, .int .i64 c.f2, .int .i64 c.f3, .int .i64 c.f4, .int .i64 c.f5.f0, .int .i64 c.f5.f1, .int .u64 c.f5.f2, .string c.f5.f3] 75))); have k0_ := (pwC B2_.out 0).trans (rfl : _ = some (Value.int .i64 c.f0)); clear hrun hm2 hg2) | (go_at_call 123; refine (fits_calls c.f0 t.f4 _ _ _ _ w.heap.size (w1.heap.size + 1 + 1 + 1) w1.heap.size ids w2 HWC.out.1 HWC.out.2.1 T2.out.box T2.out.idv T2.out.m0 (by omega)).mono ?_; rintro e w3 ⟨rfl, hm3, hg3⟩; rw [HF.out]; have T3 := Aside0.mk (T2.out.up0 hm3 hg3); have B3_ := Aside0.mk ((hg3.block _ (lt_of_block B2_.out) (fun e => by injection e with e; have := hszr; omega)).trans B2_.out); clear k0_; have k0_ := (pwC B3_.out 0).trans (rfl : _ = some (Value.int .i64 c.f0)); have k1_ := (pwC B3_.out 1).trans (rfl : _ = some (Value.string c.f1)); have k2_ := (pwC B3_.out 2).trans (rfl : _ = some (Value.int .i64 c.f2)); have k3_ := (pwC B3_.out 3).trans (rfl : _ = some (Value.int .i64 c.f3)); have k4_ := (pwC B3_.out 4).trans (rfl : _ = some (Value.int .i64 c.f4)); have k5_ := (pwC B3_.out 5).trans (rfl : _ = some (Value.int .i64 c.f5.f0)); have k6_ := (pwC B3_.out 6).trans (rfl : _ = some (Value.int .i64 c.f5.f1)); have k7_ := (pwC B3_.out 7).trans (rfl : _ = some (Value.int .u64 c.f5.f2)); have k8_ := (pwC B3_.out 8).trans (rfl : _ = some (Value.string c.f5.f3)); have hrun3 := T3.out.m1.look0 lawS Tryd.underlying108 HKS.out E1.out; clear hm3 hg3))
                      go_ret
                      exact ⟨by rw [HI.out, HCI.out, HF.out, HQ.out]; rfl, T3.out.below⟩
                    | false =>
                      cases hb : columnB c with
                      | false =>
                        have e0 := count_none hq
                        have e1 : _ = (1 : Int) := count_one e0
                        have hrun := HTB.out.m1.look0 lawS Tryd.underlying108 HKS.out e0
                        have E0 := Lib.hid e0
                        have E1 := Lib.hid e1
                        have HQ := Lib.hid hq
                        have HF := Lib.hid hf
                        have HB := Lib.hid hb
                        clear e0 e1 hq hf hb
                        go_wp2_with (first | (at_mapUpdate; refine wpList_count rfl _ _ _ 108 rfl lawS Tryd.underlying108 rfl HTB.out.m1 (by omega) (by omega) _ (nm c.f1) rfl HKS.out (injS _) (isS _) _ (by rw [E0.out] <;> rfl) rfl ?_; intro w2 hm2 hg2; have T2 := Aside0.mk (HTB.out.up1 hm2.snoc hg2); have B2_ := Aside0.mk ((hg2.block _ (by simp) (fun e => by injection e with e; have := hszr; omega)).trans (heap_alloc_new wr (.cells #[.int .i64 c.f0, .string c.f1, .int .i64 c.f2, .int .i64 c.f3, .int .i64 c.f4, .int .i64 c.f5.f0, .int .i64 c.f5.f1, .int .u64 c.f5.f2, .string c.f5.f3] 75))); have k0_ := (pwC B2_.out 0).trans (rfl : _ = some (Value.int .i64 c.f0)); clear hrun hm2 hg2) | (go_at_call 123; refine (fits_calls c.f0 t.f4 _ _ _ _ w.heap.size (w1.heap.size + 1 + 1 + 1) w1.heap.size ids w2 HWC.out.1 HWC.out.2.1 T2.out.box T2.out.idv T2.out.m0 (by omega)).mono ?_; rintro e w3 ⟨rfl, hm3, hg3⟩; rw [HF.out]; have T3 := Aside0.mk (T2.out.up0 hm3 hg3); have B3_ := Aside0.mk ((hg3.block _ (lt_of_block B2_.out) (fun e => by injection e with e; have := hszr; omega)).trans B2_.out); clear k0_; have k0_ := (pwC B3_.out 0).trans (rfl : _ = some (Value.int .i64 c.f0)); have k1_ := (pwC B3_.out 1).trans (rfl : _ = some (Value.string c.f1)); have k2_ := (pwC B3_.out 2).trans (rfl : _ = some (Value.int .i64 c.f2)); have k3_ := (pwC B3_.out 3).trans (rfl : _ = some (Value.int .i64 c.f3)); have k4_ := (pwC B3_.out 4).trans (rfl : _ = some (Value.int .i64 c.f4)); have k5_ := (pwC B3_.out 5).trans (rfl : _ = some (Value.int .i64 c.f5.f0)); have k6_ := (pwC B3_.out 6).trans (rfl : _ = some (Value.int .i64 c.f5.f1)); have k7_ := (pwC B3_.out 7).trans (rfl : _ = some (Value.int .u64 c.f5.f2)); have k8_ := (pwC B3_.out 8).trans (rfl : _ = some (Value.string c.f5.f3)); have hrun3 := T3.out.m1.look0 lawS Tryd.underlying108 HKS.out E1.out; clear hm3 hg3) | (go_at_call 124; refine (column_calls' c HWC.out.2.2.2 w3 (HG.out.of_below T3.out.below)).mono ?_; rintro e w4 ⟨rfl, hb4⟩; rw [HB.out]; have T4 := Aside0.mk (T3.out.step hb4); clear hb4))
                        go_ret
                        exact ⟨by rw [HI.out, HCI.out, HF.out, HQ.out, HB.out]; rfl, T4.out.below⟩
                      | true =>
                        have e0 := count_none hq
                        have e1 : _ = (1 : Int) := count_one e0
                        have hrun := HTB.out.m1.look0 lawS Tryd.underlying108 HKS.out e0
                        have E0 := Lib.hid e0
                        have E1 := Lib.hid e1
                        have HQ := Lib.hid hq
                        have HF := Lib.hid hf
                        have HB := Lib.hid hb
                        clear e0 e1 hq hf hb
                        go_wp2_with (first | (at_mapUpdate; refine wpList_count rfl _ _ _ 108 rfl lawS Tryd.underlying108 rfl HTB.out.m1 (by omega) (by omega) _ (nm c.f1) rfl HKS.out (injS _) (isS _) _ (by rw [E0.out] <;> rfl) rfl ?_; intro w2 hm2 hg2; have T2 := Aside0.mk (HTB.out.up1 hm2.snoc hg2); have B2_ := Aside0.mk ((hg2.block _ (by simp) (fun e => by injection e with e; have := hszr; omega)).trans (heap_alloc_new wr (.cells #[.int .i64 c.f0, .string c.f1, .int .i64 c.f2, .int .i64 c.f3, .int .i64 c.f4, .int .i64 c.f5.f0, .int .i64 c.f5.f1, .int .u64 c.f5.f2, .string c.f5.f3] 75))); have k0_ := (pwC B2_.out 0).trans (rfl : _ = some (Value.int .i64 c.f0)); clear hrun hm2 hg2) | (go_at_call 123; refine (fits_calls c.f0 t.f4 _ _ _ _ w.heap.size (w1.heap.size + 1 + 1 + 1) w1.heap.size ids w2 HWC.out.1 HWC.out.2.1 T2.out.box T2.out.idv T2.out.m0 (by omega)).mono ?_; rintro e w3 ⟨rfl, hm3, hg3⟩; rw [HF.out]; have T3 := Aside0.mk (T2.out.up0 hm3 hg3); have B3_ := Aside0.mk ((hg3.block _ (lt_of_block B2_.out) (fun e => by injection e with e; have := hszr; omega)).trans B2_.out); clear k0_; have k0_ := (pwC B3_.out 0).trans (rfl : _ = some (Value.int .i64 c.f0)); have k1_ := (pwC B3_.out 1).trans (rfl : _ = some (Value.string c.f1)); have k2_ := (pwC B3_.out 2).trans (rfl : _ = some (Value.int .i64 c.f2)); have k3_ := (pwC B3_.out 3).trans (rfl : _ = some (Value.int .i64 c.f3)); have k4_ := (pwC B3_.out 4).trans (rfl : _ = some (Value.int .i64 c.f4)); have k5_ := (pwC B3_.out 5).trans (rfl : _ = some (Value.int .i64 c.f5.f0)); have k6_ := (pwC B3_.out 6).trans (rfl : _ = some (Value.int .i64 c.f5.f1)); have k7_ := (pwC B3_.out 7).trans (rfl : _ = some (Value.int .u64 c.f5.f2)); have k8_ := (pwC B3_.out 8).trans (rfl : _ = some (Value.string c.f5.f3)); have hrun3 := T3.out.m1.look0 lawS Tryd.underlying108 HKS.out E1.out; clear hm3 hg3) | (go_at_call 124; refine (column_calls' c HWC.out.2.2.2 w3 (HG.out.of_below T3.out.below)).mono ?_; rintro e w4 ⟨rfl, hb4⟩; rw [HB.out]; have T4 := Aside0.mk (T3.out.step hb4); clear hb4))
                        go_roundg (t.f2.length - (kk + 1))
                        case measure => omega
                        case rel =>
                          refine ⟨kk + 1, by omega, by omega, by go_num, ⟨?_, ?_⟩⟩
                          · rw [hTI.out, hTN.out]; exact T4
                          · refine ⟨?_⟩
                            rw [HCI.out, HF.out, HQ.out, HB.out, hTI.out, hTN.out]; rfl
                · have hltz : ¬ (kk : Int) < (t.f2.length : Int) := by omega
                  have hkd : t.f2.drop kk = [] := List.drop_eq_nil_of_le (by omega)
                  have hkt : t.f2.take kk = t.f2 := List.take_of_length_le (by omega)
                  rw [hkd, hkt] at HCI'
                  rw [hkt] at HT'
                  have HT := HT'
                  clear HT' hkd hkt
                  have HC1 := Lib.hid (show tcolsB t.f4 [] [] t.f2 = true from HCI'.out)
                  clear HCI'
                  have kb2 := (pwC HT.out.box 3).trans (rfl : _ = some (Value.slice A3 t.f3.length c3))
                  obtain ⟨wo, hwo⟩ : ∃ wo : World, wo = wr := ⟨_, rfl⟩
                  subst hwo
                  go_wp2_with fail
                  go_loopg [10, 81] t.f3.length (fun gg _ u wr => ∃ kk : Nat, kk ≤ t.f3.length ∧ t.f3.length - kk ≤ gg ∧ u = .int .i64 kk ∧ Aside0 (TSt w wr w1.heap.size #[.int .i64 t.f0, .string t.f1, .slice A2 t.f2.length c2, .slice A3 t.f3.length c3, .int .i64 t.f4] (t.f2.map (fun c => c.f0) ++ (t.f3.take kk).map fun c => c.f0) (t.f2.map fun c => nm c.f1) ((t.f3.take kk).map fun c => nm c.f1)) ∧ Aside0 (tindsB t (t.f2.map (·.f0)) [] t.f3 = tindsB t (t.f2.map (fun c => c.f0) ++ (t.f3.take kk).map fun c => c.f0) ((t.f3.take kk).map fun c => nm c.f1) (t.f3.drop kk)))
                  case atStart => exact ⟨0, Nat.zero_le _, by omega, rfl, ⟨by first | exact HT.out | (simpa using HT.out)⟩, ⟨by simp⟩⟩
                  case round =>
                    obtain ⟨kk, hkk, hgg, rfl, HT', HCI'⟩ := hrel
                    clear HT kb2
                    by_cases hlt : kk < t.f3.length
                    · have hltz : (kk : Int) < (t.f3.length : Int) := by omega
                      have hszr : w1.heap.size + 1 + 1 + 1 < wr.heap.size := HT'.out.size
                      have hBW := HT'.out.below
                      obtain ⟨ad, B2, d2, eA, h0, h1, h2, h3, h4, hd2, hcols⟩ := at_T98 HX.out (kk : Int) (by omega) (by omega)
                      have hx : rd_T98 t.f3 (kk : Int) = t.f3[kk] := by unfold rd_T98; simp [List.getD, hlt]
                      rw [hx] at h0 h1 h2 h3 h4 hd2 hcols
                      simp only [Int.toNat_natCast] at h0 h1 h2 h3 h4
                      replace h0 := pw_cell_below hBW h0
                      replace h1 := pw_cell_below hBW h1
                      replace h2 := pw_cell_below hBW h2
                      replace h3 := pw_cell_below hBW h3
                      replace h4 := pw_cell_below hBW h4
                      cases eA
                      clear hBW
                      have hW := HW.out.2.2 _ (List.getElem_mem hlt)
                      have hd : t.f3.drop kk = t.f3[kk] :: t.f3.drop (kk + 1) := List.drop_eq_getElem_cons hlt
                      have htk : t.f3.take (kk + 1) = t.f3.take kk ++ [t.f3[kk]] := List.take_succ_eq_append_getElem hlt
                      rw [hd] at HCI'
                      generalize t.f3[kk] = c at h0 h1 h2 h3 h4 hd2 hcols hW hd htk HCI'
                      have HWC := Lib.hid hW
                      obtain ⟨ids, hids⟩ : ∃ ids, (t.f2.map (fun c => c.f0) ++ (t.f3.take kk).map fun c => c.f0) = ids := ⟨_, rfl⟩
                      obtain ⟨nsI, hns⟩ : ∃ l_, ((t.f3.take kk).map fun c => nm c.f1) = l_ := ⟨_, rfl⟩
                      have hTI := Lib.hid (show (t.f2.map (fun c => c.f0) ++ (t.f3.take (kk + 1)).map fun c => c.f0) = ids ++ [c.f0] by rw [htk, ← hids]; simp)
                      have hTN := Lib.hid (show ((t.f3.take (kk + 1)).map fun c => nm c.f1) = nsI ++ [nm c.f1] by rw [htk, ← hns]; simp)
                      rw [hids, hns] at HT' HCI'
                      have hil : ids.length < 50 := by rw [← hids]; simp; omega
                      have hnl : nsI.length < 50 := by rw [← hns]; simp; omega
                      have hst : tindsB t ids nsI (c :: t.f3.drop (kk + 1)) = (fitsB t.f4 ids c.f0 && (!nsI.contains (nm c.f1) && (indexB t c && tindsB t (ids ++ [c.f0]) (nsI ++ [nm c.f1]) (t.f3.drop (kk + 1))))) := rfl
                      have HCI := Lib.hid (HCI'.out.trans hst)
                      have HKS := Lib.hid (keyS hW.2.2)
                      have HTB := Aside0.mk (HT'.out.step (below_alloc (Below.refl _ wr) (.cells #[.int .i64 c.f0, .string c.f1, .slice B2 c.f2.length d2, .bool c.f3, .int .i64 c.f4] 98)))
                      have HI2 := Aside0.mk hcols
                      clear hcols
                      clear hx hW hd htk hids hns hst HCI' HT'
                      cases hf : fitsB t.f4 ids c.f0 with
                      | false =>
                        cases hq : nsI.contains (nm c.f1) with
                        | false =>
                          have e0 := count_none hq
                          have e1 : _ = (1 : Int) := count_one e0
                          have hrun := HTB.out.m2.look0 lawS Tryd.underlying108 HKS.out e0
                          have E0 := Lib.hid e0
                          have E1 := Lib.hid e1
                          have HQ := Lib.hid hq
                          have HF := Lib.hid hf
                          clear e0 e1 hq hf
                          go_wp2_with (first | (at_mapUpdate; refine wpList_count rfl _ _ _ 108 rfl lawS Tryd.underlying108 rfl HTB.out.m2 (by omega) (by omega) _ (nm c.f1) rfl HKS.out (injS _) (isS _) _ (by rw [E0.out] <;> rfl) rfl ?_; intro w2 hm2 hg2; have T2 := Aside0.mk (HTB.out.up2 hm2.snoc hg2); have B2_ := Aside0.mk ((hg2.block _ (by simp) (fun e => by injection e with e; have := hszr; omega)).trans (heap_alloc_new wr (.cells #[.int .i64 c.f0, .string c.f1, .slice B2 c.f2.length d2, .bool c.f3, .int .i64 c.f4] 98))); have k0_ := (pwC B2_.out 0).trans (rfl : _ = some (Value.int .i64 c.f0)); clear hrun hm2 hg2) | (go_at_call 123; refine (fits_calls c.f0 t.f4 _ _ _ _ w.heap.size (w1.heap.size + 1 + 1 + 1) w1.heap.size ids w2 HWC.out.1 HWC.out.2.1 T2.out.box T2.out.idv T2.out.m0 (by omega)).mono ?_; rintro e w3 ⟨rfl, hm3, hg3⟩; rw [HF.out]; have T3 := Aside0.mk (T2.out.up0 hm3 hg3); have B3_ := Aside0.mk ((hg3.block _ (lt_of_block B2_.out) (fun e => by injection e with e; have := hszr; omega)).trans B2_.out); clear k0_; skip; clear hm3 hg3))
                          go_ret
                          exact ⟨by rw [HI.out, HC1.out, Bool.true_and, HCI.out, HF.out]; rfl, T3.out.below⟩
                        | true =>
                          obtain ⟨cq, e0, cq1, cq2'⟩ := count_some hq
                          have cq2 : cq ≤ 100 := by omega
                          have cq3 : 1 < cq + 1 := by omega
                          have e1 := count_one e0
                          clear cq2'
                          have hrun := HTB.out.m2.look0 lawS Tryd.underlying108 HKS.out e0
                          have E0 := Lib.hid e0
                          have E1 := Lib.hid e1
                          have HQ := Lib.hid hq
                          have HF := Lib.hid hf
                          clear e0 e1 hq hf
                          go_wp2_with (first | (at_mapUpdate; refine wpList_count rfl _ _ _ 108 rfl lawS Tryd.underlying108 rfl HTB.out.m2 (by omega) (by omega) _ (nm c.f1) rfl HKS.out (injS _) (isS _) _ (by rw [E0.out] <;> rfl) rfl ?_; intro w2 hm2 hg2; have T2 := Aside0.mk (HTB.out.up2 hm2.snoc hg2); have B2_ := Aside0.mk ((hg2.block _ (by simp) (fun e => by injection e with e; have := hszr; omega)).trans (heap_alloc_new wr (.cells #[.int .i64 c.f0, .string c.f1, .slice B2 c.f2.length d2, .bool c.f3, .int .i64 c.f4] 98))); have k0_ := (pwC B2_.out 0).trans (rfl : _ = some (Value.int .i64 c.f0)); clear hrun hm2 hg2) | (go_at_call 123; refine (fits_calls c.f0 t.f4 _ _ _ _ w.heap.size (w1.heap.size + 1 + 1 + 1) w1.heap.size ids w2 HWC.out.1 HWC.out.2.1 T2.out.box T2.out.idv T2.out.m0 (by omega)).mono ?_; rintro e w3 ⟨rfl, hm3, hg3⟩; rw [HF.out]; have T3 := Aside0.mk (T2.out.up0 hm3 hg3); have B3_ := Aside0.mk ((hg3.block _ (lt_of_block B2_.out) (fun e => by injection e with e; have := hszr; omega)).trans B2_.out); clear k0_; skip; clear hm3 hg3))
                          go_ret
                          exact ⟨by rw [HI.out, HC1.out, Bool.true_and, HCI.out, HF.out]; rfl, T3.out.below⟩
                      | true =>
                        cases hq : nsI.contains (nm c.f1) with
                        | true =>
                          obtain ⟨cq, e0, cq1, cq2'⟩ := count_some hq
                          have cq2 : cq ≤ 100 := by omega
                          have cq3 : 1 < cq + 1 := by omega
                          have e1 := count_one e0
                          clear cq2'
                          have hrun := HTB.out.m2.look0 lawS Tryd.underlying108 HKS.out e0
                          have E0 := Lib.hid e0
                          have E1 := Lib.hid e1
                          have HQ := Lib.hid hq
                          have HF := Lib.hid hf
                          clear e0 e1 hq hf
                          go_wp2_with (first | (at_mapUpdate; refine wpList_count rfl _ _ _ 108 rfl lawS Tryd.underlying108 rfl HTB.out.m2 (by omega) (by omega) _ (nm c.f1) rfl HKS.out (injS _) (isS _) _ (by rw [E0.out] <;> rfl) rfl ?_; intro w2 hm2 hg2; have T2 := Aside0.mk (HTB.out.up2 hm2.snoc hg2); have B2_ := Aside0.mk ((hg2.block _ (by simp) (fun e => by injection e with e; have := hszr; omega)).trans (heap_alloc_new wr (.cells #[.int .i64 c.f0, .string c.f1, .slice B2 c.f2.length d2, .bool c.f3, .int .i64 c.f4] 98))); have k0_ := (pwC B2_.out 0).trans (rfl : _ = some (Value.int .i64 c.f0)); clear hrun hm2 hg2) | (go_at_call 123; refine (fits_calls c.f0 t.f4 _ _ _ _ w.heap.size (w1.heap.size + 1 + 1 + 1) w1.heap.size ids w2 HWC.out.1 HWC.out.2.1 T2.out.box T2.out.idv T2.out.m0 (by omega)).mono ?_; rintro e w3 ⟨rfl, hm3, hg3⟩; rw [HF.out]; have T3 := Aside0.mk (T2.out.up0 hm3 hg3); have B3_ := Aside0.mk ((hg3.block _ (lt_of_block B2_.out) (fun e => by injection e with e; have := hszr; omega)).trans B2_.out); clear k0_; have k0_ := (pwC B3_.out 0).trans (rfl : _ = some (Value.int .i64 c.f0)); have k1_ := (pwC B3_.out 1).trans (rfl : _ = some (Value.string c.f1)); have k2_ := (pwC B3_.out 2).trans (rfl : _ = some (Value.slice B2 c.f2.length d2)); have k3_ := (pwC B3_.out 3).trans (rfl : _ = some (Value.bool c.f3)); have k4_ := (pwC B3_.out 4).trans (rfl : _ = some (Value.int .i64 c.f4)); have hrun3 := T3.out.m2.look0 lawS Tryd.underlying108 HKS.out E1.out; have j0_ := (pwC T3.out.box 0).trans (rfl : _ = some (Value.int .i64 t.f0)); have j1_ := (pwC T3.out.box 1).trans (rfl : _ = some (Value.string t.f1)); have j2_ := (pwC T3.out.box 2).trans (rfl : _ = some (Value.slice A2 t.f2.length c2)); have j3_ := (pwC T3.out.box 3).trans (rfl : _ = some (Value.slice (some ad) t.f3.length c3)); have j4_ := (pwC T3.out.box 4).trans (rfl : _ = some (Value.int .i64 t.f4)); clear hm3 hg3))
                          go_ret
                          exact ⟨by rw [HI.out, HC1.out, Bool.true_and, HCI.out, HF.out, HQ.out]; rfl, T3.out.below⟩
                        | false =>
                          cases hb : indexB t c with
                          | false =>
                            have e0 := count_none hq
                            have e1 : _ = (1 : Int) := count_one e0
                            have hrun := HTB.out.m2.look0 lawS Tryd.underlying108 HKS.out e0
                            have E0 := Lib.hid e0
                            have E1 := Lib.hid e1
                            have HQ := Lib.hid hq
                            have HF := Lib.hid hf
                            have HB := Lib.hid hb
                            clear e0 e1 hq hf hb
                            go_wp2_with (first | (at_mapUpdate; refine wpList_count rfl _ _ _ 108 rfl lawS Tryd.underlying108 rfl HTB.out.m2 (by omega) (by omega) _ (nm c.f1) rfl HKS.out (injS _) (isS _) _ (by rw [E0.out] <;> rfl) rfl ?_; intro w2 hm2 hg2; have T2 := Aside0.mk (HTB.out.up2 hm2.snoc hg2); have B2_ := Aside0.mk ((hg2.block _ (by simp) (fun e => by injection e with e; have := hszr; omega)).trans (heap_alloc_new wr (.cells #[.int .i64 c.f0, .string c.f1, .slice B2 c.f2.length d2, .bool c.f3, .int .i64 c.f4] 98))); have k0_ := (pwC B2_.out 0).trans (rfl : _ = some (Value.int .i64 c.f0)); clear hrun hm2 hg2) | (go_at_call 123; refine (fits_calls c.f0 t.f4 _ _ _ _ w.heap.size (w1.heap.size + 1 + 1 + 1) w1.heap.size ids w2 HWC.out.1 HWC.out.2.1 T2.out.box T2.out.idv T2.out.m0 (by omega)).mono ?_; rintro e w3 ⟨rfl, hm3, hg3⟩; rw [HF.out]; have T3 := Aside0.mk (T2.out.up0 hm3 hg3); have B3_ := Aside0.mk ((hg3.block _ (lt_of_block B2_.out) (fun e => by injection e with e; have := hszr; omega)).trans B2_.out); clear k0_; have k0_ := (pwC B3_.out 0).trans (rfl : _ = some (Value.int .i64 c.f0)); have k1_ := (pwC B3_.out 1).trans (rfl : _ = some (Value.string c.f1)); have k2_ := (pwC B3_.out 2).trans (rfl : _ = some (Value.slice B2 c.f2.length d2)); have k3_ := (pwC B3_.out 3).trans (rfl : _ = some (Value.bool c.f3)); have k4_ := (pwC B3_.out 4).trans (rfl : _ = some (Value.int .i64 c.f4)); have hrun3 := T3.out.m2.look0 lawS Tryd.underlying108 HKS.out E1.out; have j0_ := (pwC T3.out.box 0).trans (rfl : _ = some (Value.int .i64 t.f0)); have j1_ := (pwC T3.out.box 1).trans (rfl : _ = some (Value.string t.f1)); have j2_ := (pwC T3.out.box 2).trans (rfl : _ = some (Value.slice A2 t.f2.length c2)); have j3_ := (pwC T3.out.box 3).trans (rfl : _ = some (Value.slice (some ad) t.f3.length c3)); have j4_ := (pwC T3.out.box 4).trans (rfl : _ = some (Value.int .i64 t.f4)); clear hm3 hg3) | (go_at_call 125; refine (index_calls nameCalls t c A2 c2 _ c3 B2 d2 w3 (HG.out.of_below T3.out.below) hc2 (Kd.C_below HC.out T3.out.below) hd2 (Kd.C_below HI2.out T3.out.below)).mono ?_; rintro e w4 ⟨rfl, hb4⟩; rw [HB.out]; have T4 := Aside0.mk (T3.out.step hb4); clear hb4))
                            go_ret
                            exact ⟨by rw [HI.out, HC1.out, Bool.true_and, HCI.out, HF.out, HQ.out, HB.out]; rfl, T4.out.below⟩
                          | true =>
                            have e0 := count_none hq
                            have e1 : _ = (1 : Int) := count_one e0
                            have hrun := HTB.out.m2.look0 lawS Tryd.underlying108 HKS.out e0
                            have E0 := Lib.hid e0
                            have E1 := Lib.hid e1
                            have HQ := Lib.hid hq
                            have HF := Lib.hid hf
                            have HB := Lib.hid hb
                            clear e0 e1 hq hf hb
                            go_wp2_with (first | (at_mapUpdate; refine wpList_count rfl _ _ _ 108 rfl lawS Tryd.underlying108 rfl HTB.out.m2 (by omega) (by omega) _ (nm c.f1) rfl HKS.out (injS _) (isS _) _ (by rw [E0.out] <;> rfl) rfl ?_; intro w2 hm2 hg2; have T2 := Aside0.mk (HTB.out.up2 hm2.snoc hg2); have B2_ := Aside0.mk ((hg2.block _ (by simp) (fun e => by injection e with e; have := hszr; omega)).trans (heap_alloc_new wr (.cells #[.int .i64 c.f0, .string c.f1, .slice B2 c.f2.length d2, .bool c.f3, .int .i64 c.f4] 98))); have k0_ := (pwC B2_.out 0).trans (rfl : _ = some (Value.int .i64 c.f0)); clear hrun hm2 hg2) | (go_at_call 123; refine (fits_calls c.f0 t.f4 _ _ _ _ w.heap.size (w1.heap.size + 1 + 1 + 1) w1.heap.size ids w2 HWC.out.1 HWC.out.2.1 T2.out.box T2.out.idv T2.out.m0 (by omega)).mono ?_; rintro e w3 ⟨rfl, hm3, hg3⟩; rw [HF.out]; have T3 := Aside0.mk (T2.out.up0 hm3 hg3); have B3_ := Aside0.mk ((hg3.block _ (lt_of_block B2_.out) (fun e => by injection e with e; have := hszr; omega)).trans B2_.out); clear k0_; have k0_ := (pwC B3_.out 0).trans (rfl : _ = some (Value.int .i64 c.f0)); have k1_ := (pwC B3_.out 1).trans (rfl : _ = some (Value.string c.f1)); have k2_ := (pwC B3_.out 2).trans (rfl : _ = some (Value.slice B2 c.f2.length d2)); have k3_ := (pwC B3_.out 3).trans (rfl : _ = some (Value.bool c.f3)); have k4_ := (pwC B3_.out 4).trans (rfl : _ = some (Value.int .i64 c.f4)); have hrun3 := T3.out.m2.look0 lawS Tryd.underlying108 HKS.out E1.out; have j0_ := (pwC T3.out.box 0).trans (rfl : _ = some (Value.int .i64 t.f0)); have j1_ := (pwC T3.out.box 1).trans (rfl : _ = some (Value.string t.f1)); have j2_ := (pwC T3.out.box 2).trans (rfl : _ = some (Value.slice A2 t.f2.length c2)); have j3_ := (pwC T3.out.box 3).trans (rfl : _ = some (Value.slice (some ad) t.f3.length c3)); have j4_ := (pwC T3.out.box 4).trans (rfl : _ = some (Value.int .i64 t.f4)); clear hm3 hg3) | (go_at_call 125; refine (index_calls nameCalls t c A2 c2 _ c3 B2 d2 w3 (HG.out.of_below T3.out.below) hc2 (Kd.C_below HC.out T3.out.below) hd2 (Kd.C_below HI2.out T3.out.below)).mono ?_; rintro e w4 ⟨rfl, hb4⟩; rw [HB.out]; have T4 := Aside0.mk (T3.out.step hb4); clear hb4))
                            go_roundg (t.f3.length - (kk + 1))
                            case measure => omega
                            case rel =>
                              refine ⟨kk + 1, by omega, by omega, by go_num, ⟨?_, ?_⟩⟩
                              · rw [hTI.out, hTN.out]; exact T4
                              · refine ⟨?_⟩
                                rw [HCI.out, HF.out, HQ.out, HB.out, hTI.out, hTN.out]; rfl
                    · have hltz : ¬ (kk : Int) < (t.f3.length : Int) := by omega
                      have hkd : t.f3.drop kk = [] := List.drop_eq_nil_of_le (by omega)
                      have hkt : t.f3.take kk = t.f3 := List.take_of_length_le (by omega)
                      rw [hkd, hkt] at HCI'
                      rw [hkt] at HT'
                      have HT := HT'
                      clear HT' hkd hkt
                      have HC2 := Lib.hid (show tindsB t (t.f2.map (·.f0)) [] t.f3 = true from HCI'.out)
                      clear HCI'
                      have kb2 := (pwC HT.out.box 2).trans (rfl : _ = some (Value.slice A2 t.f2.length c2))
                      obtain ⟨ad, eA, h0, h1, h2, h3, h4, h5, h6, h7, h8⟩ := at_T75 (Kd.C_below HC.out HT.out.below) (0 : Int) (by omega) (by omega)
                      have hl0 : 0 < t.f2.length := by omega
                      have hx : rd_T75 t.f2 (0 : Int) = t.f2[0] := by unfold rd_T75; simp [List.getD, hl0]
                      rw [hx] at h0 h1 h2 h3 h4 h5 h6 h7 h8
                      simp only [Int.toNat_zero, Nat.zero_mul] at h0 h1 h2 h3 h4 h5 h6 h7 h8
                      have ea : ad.add 0 = ad := by simp [Addr.add]
                      rw [ea] at h0 h1 h2 h3 h4 h5 h6 h7 h8
                      clear ea
                      cases eA
                      have hK := keyB_of t hl0
                      generalize t.f2[0] = c at h0 h1 h2 h3 h4 h5 h6 h7 h8 hK
                      have HW0 := Lib.hid HT.out.below
                      clear hx HT
                      cases q1 : c.f3 == 4 with
                      | false =>
                        rw [q1] at hK
                        have HK := Lib.hid hK
                        clear hK
                        go_wp2
                        go_ret
                        exact ⟨by rw [HI.out, HC1.out, HC2.out, HK.out]; rfl, below_alloc HW0.out _⟩
                      | true =>
                        cases q2 : c.f4 == 4 with
                        | false =>
                          rw [q1, q2] at hK
                          have HK := Lib.hid hK
                          clear hK
                          go_wp2
                          go_ret
                          exact ⟨by rw [HI.out, HC1.out, HC2.out, HK.out]; rfl, below_alloc HW0.out _⟩
                        | true =>
                          rw [q1, q2] at hK
                          have HK := Lib.hid hK
                          clear hK
                          go_wp2
                          go_ret
                          exact ⟨by rw [HI.out, HC1.out, HC2.out, HK.out]; rfl, below_alloc HW0.out _⟩
end Go.Proofs.YtjgomlcdmpcoaaaDoor.H
