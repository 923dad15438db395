/- Own texts of this session, packed by its program wip/pp/pack.py: lemmas and walks of functions. -/
import Derived.Deep.RegionLaw
import Derived.Deep.QuietTactic
import Derived.BigQuiet
import Derived.Test.YtjgomlcdmpcoaaaDoorKCC10
namespace Go.Proofs.YtjgomlcdmpcoaaaDoor.H
open Go.RowKit Go.Proofs.YtjgomlcdmpcoaaaDoorW.PrintWords Go.Proofs.YtjgomlcdmpcoaaaDoorW.PrintLast Go.Proofs.YtjgomlcdmpcoaaaDoorW.PrintMore
open Go.Proofs.YtjgomlcdmpcoaaaDoor.D Go.Proofs.YtjgomlcdmpcoaaaDoor
set_option linter.unusedVariables false
set_option linter.unusedSimpArgs false
theorem wrap_nat (i : Nat) (h : i < 1000000) : wrap64 ((i : Int) + 1) = ((i + 1 : Nat) : Int) := by unfold wrap64; omega
theorem rd_nat (l : List Int) (i : Nat) (h : i < l.length) : rd l (i : Int) = l[i] := by simp [rd, List.getD, h]
theorem rd75 (l : List S75) (i : Nat) (h : i < l.length) : rd_T75 l (i : Int) = l[i] := by unfold rd_T75; simp [List.getD, h]
theorem rd98 (l : List S98) (i : Nat) (h : i < l.length) : rd_T98 l (i : Int) = l[i] := by unfold rd_T98; simp [List.getD, h]
theorem rd70 (l : List S70) (i : Nat) (h : i < l.length) : rd_T70 l (i : Int) = l[i] := by unfold rd_T70; simp [List.getD, h]
theorem rnam_calls (s : ByteArray) (w : World) : Calls Tryd.prog 34 #[.string s] w fun e w' => e = .returned (.bool (nameB s)) ∧ Below w.heap.size w w' :=
  (falseworkref6_Name.calls 101 s (nameB s) w (ref_name s 101 (by decide))).mono fun e w' h => ⟨h.1, by first | exact h.2 | exact h.2.below⟩
theorem at_take {α : Type} {l : List α} {j : Nat} (h : j < l.length) (p : α → Bool) : (l.take (j + 1)).any p = ((l.take j).any p || p l[j]) := by
  rw [List.take_succ_eq_append_getElem h, List.any_append, List.any_cons, List.any_nil, Bool.or_false]
theorem ct_take {l : List Int} {j : Nat} (h : j < l.length) (x : Int) : (l.take (j + 1)).contains x = ((l.take j).contains x || x == l[j]) := by
  rw [List.take_succ_eq_append_getElem h, List.contains_append, List.contains_cons]
  simp
theorem beq_comm_int (a b : Int) : (a == b) = (b == a) := by rw [Bool.eq_iff_iff, beq_iff_eq, beq_iff_eq]; exact eq_comm
theorem indexB_parts (t : S70) (x : S98) : indexB t x = (nameB x.f1 && (decide (0 ≤ x.f4) && (decide (x.f4 ≤ 4) && (decide (1 ≤ x.f2.length) && (decide (x.f2.length ≤ 8) && colsB t.f2 [] x.f2))))) := by
  unfold indexB stateB
  cases nameB x.f1 <;> cases decide (0 ≤ x.f4) <;> cases decide (x.f4 ≤ 4) <;> cases decide (1 ≤ x.f2.length) <;> cases decide (x.f2.length ≤ 8) <;> rfl
structure IXt (w wr : World) (bt bx : Array Value) : Prop where
  below : Below w.heap.size w wr
  tb : wr.heap[w.heap.size]? = some (.cells bt 70 (0, 0))
  xb : wr.heap[w.heap.size + 1]? = some (.cells bx 98 (0, 0))
theorem IXt.step {w wr w' : World} {bt bx : Array Value} (h : IXt w wr bt bx) (hb : Below wr.heap.size wr w') : IXt w w' bt bx :=
  ⟨below_then h.below h.below.size hb, blk_below h.tb hb, blk_below h.xb hb⟩
theorem IXt.drew {w wr : World} {bt bx : Array Value} (h : IXt w wr bt bx) (n : Nat) : IXt w (wr.drewN n) bt bx := h.step (pw_below_drewN (Below.refl _ _) n)
theorem IXt.new (w : World) (bt bx : Array Value) : IXt w ((w.alloc (.cells bt 70)).alloc (.cells bx 98)) bt bx := by
  refine ⟨below_alloc (below_alloc (Below.refl _ _) _) _, blk_alloc (heap_alloc_new w _) _, ?_⟩
  have := heap_alloc_new (w.alloc (.cells bt 70)) (.cells bx 98)
  simpa using this
set_option maxRecDepth 100000 in
set_option maxHeartbeats 16000000 in
theorem rind_calls (t : S70) (x : S98) (hc : t.f2.length ≤ 8) (A2 : Option Addr) (c2 : Nat) (A3 : Option Addr) (c3 : Nat) (B2 : Option Addr) (d2 : Nat) (w : World) (hc2 : t.f2.length ≤ c2) (g2 : k75.C w A2 t.f2.length t.f2) (hc3 : t.f3.length ≤ c3) (g3 : k98.C w A3 t.f3.length t.f3)
    (hd2 : x.f2.length ≤ d2) (hx : (Kd.int .i64).C w B2 x.f2.length x.f2) :
    Calls Tryd.prog 127 #[.agg #[.int .i64 t.f0, .string t.f1, .slice A2 t.f2.length c2, .slice A3 t.f3.length c3, .int .i64 t.f4], .agg #[.int .i64 x.f0, .string x.f1, .slice B2 x.f2.length d2, .bool x.f3, .int .i64 x.f4]] w fun e w' => e = .returned (.bool (indexB t x)) ∧ Below w.heap.size w w' := by
  have HN := Lib.hid (fun w => rnam_calls x.f1 w)
  have HC := Aside0.mk g2
  have HX := Aside0.mk hx
  have big2 := g2.2.1
  have big3 := hx.2.1
  have hI := indexB_parts t x
  generalize indexB t x = R at hI ⊢
  generalize nameB x.f1 = nb at hI HN
  have HS0 := Aside0.mk (IXt.new w #[.int .i64 t.f0, .string t.f1, .slice A2 t.f2.length c2, .slice A3 t.f3.length c3, .int .i64 t.f4] #[.int .i64 x.f0, .string x.f1, .slice B2 x.f2.length d2, .bool x.f3, .int .i64 x.f4])
  clear g2 g3 hx
  go_enter Tryd.func127, Tryd.ntmps127
  go_wp2_with fail
  refine (HN.out _).mono ?_
  rintro e w1 ⟨rfl, hb1⟩
  have HS := Aside0.mk (HS0.out.step hb1)
  have k2 := (pwC HS.out.xb 2).trans (rfl : _ = some (Value.slice B2 x.f2.length d2))
  have k4 := (pwC HS.out.xb 4).trans (rfl : _ = some (Value.int .i64 x.f4))
  clear hb1 HS0
  cases nb with
  | false =>
    have HI := Lib.hid hI
    clear hI
    go_wp2
    go_ret
    exact ⟨by rw [HI.out]; rfl, HS.out.below⟩
  | true =>
    rw [Bool.true_and] at hI
    cases q1 : decide (0 ≤ x.f4) with
    | false =>
      have e0 : decide (x.f4 < 0) = true := decide_eq_true (by have := of_decide_eq_false q1; omega)
      rw [q1] at hI
      have HI := Lib.hid hI
      clear hI q1
      go_wp2
      go_ret
      exact ⟨by rw [HI.out]; rfl, HS.out.below⟩
    | true =>
      rw [q1, Bool.true_and] at hI
      have z0 := of_decide_eq_true q1
      have e0 : decide (x.f4 < 0) = false := decide_eq_false (by omega)
      clear q1
      cases q2 : decide (x.f4 ≤ 4) with
      | false =>
        have e1 : decide (4 < x.f4) = true := decide_eq_true (by have := of_decide_eq_false q2; omega)
        rw [q2] at hI
        have HI := Lib.hid hI
        clear hI q2
        go_wp2
        go_ret
        exact ⟨by rw [HI.out]; rfl, HS.out.below⟩
      | true =>
        rw [q2, Bool.true_and] at hI
        have z1 := of_decide_eq_true q2
        have e1 : decide (4 < x.f4) = false := decide_eq_false (by omega)
        clear q2
        cases q3 : decide (1 ≤ x.f2.length) with
        | false =>
          have e2 : decide ((x.f2.length : Int) < 1) = true := decide_eq_true (by have := of_decide_eq_false q3; omega)
          rw [q3] at hI
          have HI := Lib.hid hI
          clear hI q3
          go_wp2
          go_ret
          exact ⟨by rw [HI.out]; rfl, HS.out.below⟩
        | true =>
          rw [q3, Bool.true_and] at hI
          have z2 := of_decide_eq_true q3
          have e2 : decide ((x.f2.length : Int) < 1) = false := decide_eq_false (by omega)
          clear q3
          cases q4 : decide (x.f2.length ≤ 8) with
          | false =>
            have e3 : decide (8 < (x.f2.length : Int)) = true := decide_eq_true (by have := of_decide_eq_false q4; omega)
            rw [q4] at hI
            have HI := Lib.hid hI
            clear hI q4
            go_wp2
            go_ret
            exact ⟨by rw [HI.out]; rfl, HS.out.below⟩
          | true =>
            rw [q4, Bool.true_and] at hI
            have z3 := of_decide_eq_true q4
            have e3 : decide (8 < (x.f2.length : Int)) = false := decide_eq_false (by omega)
            clear q4
            have HI := Lib.hid hI
            clear hI
            go_wp2_with fail
            go_loopg [5, 6, 7, 8] x.f2.length (fun gg u5 u6 u7 u8 wr => ∃ i : Nat, i ≤ x.f2.length ∧ x.f2.length - i ≤ gg ∧ u5 = .int .i64 i ∧ Aside0 (IXt w wr #[.int .i64 t.f0, .string t.f1, .slice A2 t.f2.length c2, .slice A3 t.f3.length c3, .int .i64 t.f4] #[.int .i64 x.f0, .string x.f1, .slice B2 x.f2.length d2, .bool x.f3, .int .i64 x.f4]) ∧ Aside0 (colsB t.f2 [] x.f2 = colsB t.f2 (x.f2.take i) (x.f2.drop i)))
            case atStart => exact ⟨0, Nat.zero_le _, by omega, rfl, HS, ⟨rfl⟩⟩
            case round =>
              obtain ⟨i, hi, hgi, rfl, HT, HCI⟩ := hrel
              clear HS
              have k2 := (pwC HT.out.xb 2).trans (rfl : _ = some (Value.slice B2 x.f2.length d2))
              have j2 := (pwC HT.out.tb 2).trans (rfl : _ = some (Value.slice A2 t.f2.length c2))
              by_cases hlt : i < x.f2.length
              · have hltz : (i : Int) < (x.f2.length : Int) := by omega
                have hi0 : (0 : Int) ≤ (i : Int) := by omega
                have hst : colsB t.f2 [] x.f2 = (!((x.f2.take i).contains x.f2[i]) && (t.f2.any (fun c => c.f0 == x.f2[i]) && colsB t.f2 (x.f2.take (i + 1)) (x.f2.drop (i + 1)))) := by
                  rw [HCI.out, List.drop_eq_getElem_cons hlt, colsB, List.take_succ_eq_append_getElem hlt]
                obtain ⟨bd, eA, -⟩ := Kd.at_int (Kd.C_below HX.out HT.out.below) (i : Int) (by omega) (by omega)
                cases eA
                obtain ⟨id, hid⟩ : ∃ id, x.f2[i] = id := ⟨_, rfl⟩
                rw [hid] at hst
                have HQ := Lib.hid hid
                have HST := Lib.hid hst
                clear hid hst HCI
                obtain ⟨wo, hwo⟩ : ∃ wo : World, wo = wr := ⟨_, rfl⟩
                subst hwo
                go_wp2_with fail
                go_loopg [6, 7] t.f2.length (fun gg u6 u7 wr => ∃ (k : Nat) (b : Bool), k ≤ t.f2.length ∧ t.f2.length - k ≤ gg ∧ u6 = .bool b ∧ u7 = .int .i64 k ∧ Aside0 (IXt w wr #[.int .i64 t.f0, .string t.f1, .slice A2 t.f2.length c2, .slice A3 t.f3.length c3, .int .i64 t.f4] #[.int .i64 x.f0, .string x.f1, .slice (some bd) x.f2.length d2, .bool x.f3, .int .i64 x.f4]) ∧ Aside0 ((t.f2.take k).any (fun c => c.f0 == id) = b))
                case atStart => exact ⟨0, false, Nat.zero_le _, by omega, rfl, rfl, HT, ⟨rfl⟩⟩
                case round =>
                  obtain ⟨k, b, hk, hgk, rfl, rfl, HT2, HNC⟩ := hrel
                  clear HT k2 j2
                  have k2 := (pwC HT2.out.xb 2).trans (rfl : _ = some (Value.slice (some bd) x.f2.length d2))
                  have j2 := (pwC HT2.out.tb 2).trans (rfl : _ = some (Value.slice A2 t.f2.length c2))
                  by_cases hkl : k < t.f2.length
                  · have hkz : (k : Int) < (t.f2.length : Int) := by omega
                    have hk0 : (0 : Int) ≤ (k : Int) := by omega
                    have hN := at_take hkl (fun c => c.f0 == id)
                    rw [HNC.out] at hN
                    obtain ⟨ad_, eA, p0, -⟩ := at_T75 (Kd.C_below HC.out HT2.out.below) (k : Int) (by omega) (by omega)
                    cases eA
                    obtain ⟨bd_, eA, q0⟩ := Kd.at_int (Kd.C_below HX.out HT2.out.below) (i : Int) (by omega) (by omega)
                    cases eA
                    rw [rd75 _ _ hkl] at p0
                    rw [rd_nat _ _ hlt, HQ.out] at q0
                    simp only [Int.toNat_natCast] at p0 q0
                    generalize t.f2[k].f0 = cid at p0 hN
                    cases b with
                    | true =>
                      have HN2 := Aside0.mk hN
                      clear hN HNC p0 q0
                      go_wp2_with fail
                      go_quiet (fail)
                      go_wp2
                      go_roundg (t.f2.length - (k + 1))
                      case measure => omega
                      case rel => exact ⟨k + 1, true, by omega, by omega, rfl, by go_num, ⟨HT2.out.drew _⟩, HN2⟩
                    | false =>
                      cases hq : (cid == id) with
                      | true =>
                        rw [hq] at hN
                        have HN2 := Aside0.mk hN
                        clear hN HNC
                        go_wp2_with fail
                        go_quiet (fail)
                        go_wp2
                        go_roundg (t.f2.length - (k + 1))
                        case measure => omega
                        case rel => exact ⟨k + 1, true, by omega, by omega, rfl, by go_num, ⟨HT2.out.drew _⟩, HN2⟩
                      | false =>
                        rw [hq] at hN
                        have HN2 := Aside0.mk hN
                        clear hN HNC
                        go_wp2_with fail
                        go_quiet (fail)
                        go_wp2
                        go_roundg (t.f2.length - (k + 1))
                        case measure => omega
                        case rel => exact ⟨k + 1, false, by omega, by omega, rfl, by go_num, ⟨HT2.out.drew _⟩, HN2⟩
                  · obtain rfl : k = t.f2.length := by omega
                    rw [List.take_length] at HNC
                    rw [HNC.out] at HST
                    clear HNC
                    have hjj : ¬ (t.f2.length : Int) < (t.f2.length : Int) := by omega
                    obtain ⟨wo, hwo⟩ : ∃ wo : World, wo = wr := ⟨_, rfl⟩
                    subst hwo
                    go_wp2_with fail
                    go_loopg [6, 8] i (fun gg u6 u8 wr => ∃ (j : Nat) (e : Bool), j ≤ i ∧ i - j ≤ gg ∧ u6 = .bool e ∧ u8 = .int .i64 j ∧ Aside0 (IXt w wr #[.int .i64 t.f0, .string t.f1, .slice A2 t.f2.length c2, .slice A3 t.f3.length c3, .int .i64 t.f4] #[.int .i64 x.f0, .string x.f1, .slice (some bd) x.f2.length d2, .bool x.f3, .int .i64 x.f4]) ∧ Aside0 ((b && !(x.f2.take j).contains id) = e))
                    case atStart => exact ⟨0, b, Nat.zero_le _, by omega, rfl, rfl, HT2, ⟨Bool.and_true _⟩⟩
                    case round =>
                      obtain ⟨j, e, hj, hgj, rfl, rfl, HT3, HNC⟩ := hrel
                      clear HT2 k2 j2
                      have k2 := (pwC HT3.out.xb 2).trans (rfl : _ = some (Value.slice (some bd) x.f2.length d2))
                      by_cases hjl : j < i
                      · have hjz : (j : Int) < (i : Int) := by omega
                        have hjz2 : (j : Int) < (x.f2.length : Int) := by omega
                        have hj0 : (0 : Int) ≤ (j : Int) := by omega
                        have hjL : j < x.f2.length := by omega
                        obtain ⟨bd_, eA, q0⟩ := Kd.at_int (Kd.C_below HX.out HT3.out.below) (i : Int) (by omega) (by omega)
                        cases eA
                        obtain ⟨bd_, eA, p0⟩ := Kd.at_int (Kd.C_below HX.out HT3.out.below) (j : Int) (by omega) (by omega)
                        cases eA
                        rw [rd_nat _ _ hlt, HQ.out] at q0
                        rw [rd_nat _ _ hjL] at p0
                        simp only [Int.toNat_natCast] at p0 q0
                        have hN : (b && !(x.f2.take (j + 1)).contains id) = (e && !(id == x.f2[j])) := by rw [ct_take hjL, Bool.not_or, ← Bool.and_assoc, HNC.out]
                        generalize x.f2[j] = y at p0 hN
                        cases e with
                        | false =>
                          have HN2 := Aside0.mk hN
                          clear hN HNC p0 q0
                          go_wp2_with fail
                          go_quiet (fail)
                          go_wp2
                          go_roundg (i - (j + 1))
                          case measure => omega
                          case rel => exact ⟨j + 1, false, by omega, by omega, rfl, by go_num, ⟨HT3.out.drew _⟩, HN2⟩
                        | true =>
                          cases hq : (id == y) with
                          | true =>
                            rw [hq] at hN
                            have HN2 := Aside0.mk hN
                            have ht : (y != id) = false := by rw [bne, beq_comm_int, hq]; rfl
                            clear hN HNC hq
                            go_wp2_with fail
                            go_quiet (fail)
                            go_wp2
                            go_roundg (i - (j + 1))
                            case measure => omega
                            case rel => exact ⟨j + 1, false, by omega, by omega, rfl, by go_num, ⟨HT3.out.drew _⟩, HN2⟩
                          | false =>
                            rw [hq] at hN
                            have HN2 := Aside0.mk hN
                            have ht : (y != id) = true := by rw [bne, beq_comm_int, hq]; rfl
                            clear hN HNC hq
                            go_wp2_with fail
                            go_quiet (fail)
                            go_wp2
                            go_roundg (i - (j + 1))
                            case measure => omega
                            case rel => exact ⟨j + 1, true, by omega, by omega, rfl, by go_num, ⟨HT3.out.drew _⟩, HN2⟩
                      · obtain rfl : j = i := by omega
                        have hjj : ¬ (j : Int) < (j : Int) := by omega
                        have hst : colsB t.f2 [] x.f2 = (e && colsB t.f2 (x.f2.take (j + 1)) (x.f2.drop (j + 1))) := by
                          rw [HST.out, ← HNC.out]
                          cases b <;> cases (x.f2.take j).contains id <;> rfl
                        have HST2 := Lib.hid hst
                        clear hst HNC k2
                        cases e with
                        | false =>
                          go_wp2
                          go_ret
                          exact ⟨by rw [HI.out, HST2.out] <;> rfl, HT3.out.below⟩
                        | true =>
                          go_wp2
                          go_roundg (x.f2.length - (j + 1))
                          case measure => omega
                          case rel => exact ⟨j + 1, by omega, by omega, by go_num, HT3, ⟨HST2.out⟩⟩
              · have hltz : ¬ (i : Int) < (x.f2.length : Int) := by omega
                have HF := Lib.hid (show colsB t.f2 [] x.f2 = true by rw [HCI.out, List.drop_eq_nil_of_le (by omega)]; rfl)
                go_wp2
                go_ret
                exact ⟨by rw [HI.out, HF.out] <;> rfl, HT.out.below⟩
end Go.Proofs.YtjgomlcdmpcoaaaDoor.H
