/- Own texts of this session, packed by its program wip/pp/pack.py: lemmas and walks of functions. -/
import Derived.Deep.RegionLaw
import Derived.Deep.QuietTactic
import Derived.BigQuiet
import Derived.Test.YtjgomlcdmpcoaaaDoorKSteps2
import Derived.Test.YtjgomlcdmpcoaaaDoorKSteps4
namespace Go.Proofs.YtjgomlcdmpcoaaaDoor.H
open Go.RowKit Go.Proofs.YtjgomlcdmpcoaaaDoorW.PrintWords Go.Proofs.YtjgomlcdmpcoaaaDoorW.PrintLast Go.Proofs.YtjgomlcdmpcoaaaDoorW.PrintMore
open Go.Proofs.YtjgomlcdmpcoaaaDoor.D Go.Proofs.YtjgomlcdmpcoaaaDoor
set_option linter.unusedVariables false
set_option linter.unusedSimpArgs false
theorem wrap_nat (i : Nat) (h : i < 1000000) : wrap64 ((i : Int) + 1) = ((i + 1 : Nat) : Int) := by unfold wrap64; omega
theorem rd_nat (l : List Int) (i : Nat) (h : i < l.length) : rd l (i : Int) = l[i] := by simp [rd, List.getD, h]
theorem rd75 (l : List S75) (i : Nat) (h : i < l.length) : rd_T75 l (i : Int) = l[i] := by unfold rd_T75; simp [List.getD, h]
theorem rd98 (l : List S98) (i : Nat) (h : i < l.length) : rd_T98 l (i : Int) = l[i] := by unfold rd_T98; simp [List.getD, h]
theorem rd70 (l : List S70) (i : Nat) (h : i < l.length) : rd_T70 l (i : Int) = l[i] := by unfold rd_T70; simp [List.getD, h]
theorem rnam_calls (s : ByteArray) (w : World) : Calls Tryd.prog 34 #[.string s] w fun e w' => e = .returned (.bool (nameB s)) ∧ Below w.heap.size w w' :=
  (falseworkref6_Name.calls 101 s (nameB s) w (ref_name s 101 (by decide))).mono fun e w' h => ⟨h.1, by first | exact h.2 | exact h.2.below⟩
theorem at_take {α : Type} {l : List α} {j : Nat} (h : j < l.length) (p : α → Bool) : (l.take (j + 1)).any p = ((l.take j).any p || p l[j]) := by
  rw [List.take_succ_eq_append_getElem h, List.any_append, List.any_cons, List.any_nil, Bool.or_false]
theorem ct_take {l : List Int} {j : Nat} (h : j < l.length) (x : Int) : (l.take (j + 1)).contains x = ((l.take j).contains x || x == l[j]) := by
  rw [List.take_succ_eq_append_getElem h, List.contains_append, List.contains_cons]
  simp
theorem beq_comm_int (a b : Int) : (a == b) = (b == a) := by rw [Bool.eq_iff_iff, beq_iff_eq, beq_iff_eq]; exact eq_comm
theorem indexB_parts (t : S70) (x : S98) : indexB t x = (nameB x.f1 && (decide (0 ≤ x.f4) && (decide (x.f4 ≤ 4) && (decide (1 ≤ x.f2.length) && (decide (x.f2.length ≤ 8) && colsB t.f2 [] x.f2))))) := by
  unfold indexB stateB
  cases nameB x.f1 <;> cases decide (0 ≤ x.f4) <;> cases decide (x.f4 ≤ 4) <;> cases decide (1 ≤ x.f2.length) <;> cases decide (x.f2.length ≤ 8) <;> rfl
structure IXt (w wr : World) (bt bx : Array Value) : Prop where
  below : Below w.heap.size w wr
  tb : wr.heap[w.heap.size]? = some (.cells bt 70 (0, 0))
  xb : wr.heap[w.heap.size + 1]? = some (.cells bx 98 (0, 0))
theorem IXt.step {w wr w' : World} {bt bx : Array Value} (h : IXt w wr bt bx) (hb : Below wr.heap.size wr w') : IXt w w' bt bx :=
  ⟨below_then h.below h.below.size hb, blk_below h.tb hb, blk_below h.xb hb⟩
theorem IXt.drew {w wr : World} {bt bx : Array Value} (h : IXt w wr bt bx) (n : Nat) : IXt w (wr.drewN n) bt bx := h.step (pw_below_drewN (Below.refl _ _) n)
theorem IXt.new (w : World) (bt bx : Array Value) : IXt w ((w.alloc (.cells bt 70)).alloc (.cells bx 98)) bt bx := by
  refine ⟨below_alloc (below_alloc (Below.refl _ _) _) _, blk_alloc (heap_alloc_new w _) _, ?_⟩
  have := heap_alloc_new (w.alloc (.cells bt 70)) (.cells bx 98)
  simpa using this
set_option maxRecDepth 100000 in
set_option maxHeartbeats 16000000 in
theorem rind_calls (t : S70) (x : S98) (hc : t.f2.length ≤ 8) (A2 : Option Addr) (c2 : Nat) (A3 : Option Addr) (c3 : Nat) (B2 : Option Addr) (d2 : Nat) (w : World) (hc2 : t.f2.length ≤ c2) (g2 : k75.C w A2 t.f2.length t.f2) (hc3 : t.f3.length ≤ c3) (g3 : k98.C w A3 t.f3.length t.f3)
    (hd2 : x.f2.length ≤ d2) (hx : (Kd.int .i64).C w B2 x.f2.length x.f2) :
    Calls Tryd.prog 127 #[.agg #[.int .i64 t.f0, .string t.f1, .slice A2 t.f2.length c2, .slice A3 t.f3.length c3, .int .i64 t.f4], .agg #[.int .i64 x.f0, .string x.f1, .slice B2 x.f2.length d2, .bool x.f3, .int .i64 x.f4]] w fun e w' => e = .returned (.bool (indexB t x)) ∧ Below w.heap.size w w' := by
  have HN := Lib.hid (fun w => rnam_calls x.f1 w)
  have HC := Aside0.mk g2
  have HX := Aside0.mk hx
  have big2 := g2.2.1
  have big3 := hx.2.1
  have hI := indexB_parts t x
  generalize indexB t x = R at hI ⊢
  generalize nameB x.f1 = nb at hI HN
  have HS0 := Aside0.mk (IXt.new w #[.int .i64 t.f0, .string t.f1, .slice A2 t.f2.length c2, .slice A3 t.f3.length c3, .int .i64 t.f4] #[.int .i64 x.f0, .string x.f1, .slice B2 x.f2.length d2, .bool x.f3, .int .i64 x.f4])
  clear g2 g3 hx
  go_enter Tryd.func127, Tryd.ntmps127
  go_wp2_with fail
  refine (HN.out _).mono ?_
  rintro e w1 ⟨rfl, hb1⟩
  have HS := Aside0.mk (HS0.out.step hb1)
  have k2 := (Go.Proofs.YtjgomlcdmpcoaaaDoorW.PrintWords.blk_cell HS.out.xb 2).trans (rfl : _ = some (Value.slice B2 x.f2.length d2))
  have k4 := (Go.Proofs.YtjgomlcdmpcoaaaDoorW.PrintWords.blk_cell HS.out.xb 4).trans (rfl : _ = some (Value.int .i64 x.f4))
  clear hb1 HS0
  cases nb with
  | false =>
    have HI := Lib.hid hI
    clear hI
    go_wp2
    go_ret
    exact ⟨by rw [HI.out]; rfl, HS.out.below⟩
  | true =>
    rw [Bool.true_and] at hI
    cases q1 : decide (0 ≤ x.f4) with
    | false =>
      have e0 : decide (x.f4 < 0) = true := decide_eq_true (by have := of_decide_eq_false q1; omega)
      rw [q1] at hI
      have HI := Lib.hid hI
      clear hI q1
      go_wp2
      go_ret
      exact ⟨by rw [HI.out]; rfl, HS.out.below⟩
    | true =>
      rw [q1, Bool.true_and] at hI
      have z0 := of_decide_eq_true q1
      have e0 : decide (x.f4 < 0) = false := decide_eq_false (by omega)
      clear q1
      cases q2 : decide (x.f4 ≤ 4) with
      | false =>
        have e1 : decide (4 < x.f4) = true := decide_eq_true (by have := of_decide_eq_false q2; omega)
        rw [q2] at hI
        have HI := Lib.hid hI
        clear hI q2
        go_wp2
        go_ret
        exact ⟨by rw [HI.out]; rfl, HS.out.below⟩
      | true =>
        rw [q2, Bool.true_and] at hI
        have z1 := of_decide_eq_true q2
        have e1 : decide (4 < x.f4) = false := decide_eq_false (by omega)
        clear q2
        cases q3 : decide (1 ≤ x.f2.length) with
        | false =>
          have e2 : decide ((x.f2.length : Int) < 1) = true := decide_eq_true (by have := of_decide_eq_false q3; omega)
          rw [q3] at hI
          have HI := Lib.hid hI
          clear hI q3
          go_wp2
          go_ret
          exact ⟨by rw [HI.out]; rfl, HS.out.below⟩
        | true =>
          rw [q3, Bool.true_and] at hI
          have z2 := of_decide_eq_true q3
          have e2 : decide ((x.f2.length : Int) < 1) = false := decide_eq_false (by omega)
          clear q3
          cases q4 : decide (x.f2.length ≤ 8) with
          | false =>
            have e3 : decide (8 < (x.f2.length : Int)) = true := decide_eq_true (by have := of_decide_eq_false q4; omega)
            rw [q4] at hI
            have HI := Lib.hid hI
            clear hI q4
            go_wp2
            go_ret
            exact ⟨by rw [HI.out]; rfl, HS.out.below⟩
          | true =>
            rw [q4, Bool.true_and] at hI
            have z3 := of_decide_eq_true q4
            have e3 : decide (8 < (x.f2.length : Int)) = false := decide_eq_false (by omega)
            clear q4
            have HI := Lib.hid hI
            clear hI
            go_wp2_with fail
            go_loopg [5, 6, 7, 8] x.f2.length (fun gg u5 u6 u7 u8 wr => ∃ i : Nat, i ≤ x.f2.length ∧ x.f2.length - i ≤ gg ∧ u5 = .int .i64 i ∧ Aside0 (IXt w wr #[.int .i64 t.f0, .string t.f1, .slice A2 t.f2.length c2, .slice A3 t.f3.length c3, .int .i64 t.f4] #[.int .i64 x.f0, .string x.f1, .slice B2 x.f2.length d2, .bool x.f3, .int .i64 x.f4]) ∧ Aside0 (colsB t.f2 [] x.f2 = colsB t.f2 (x.f2.take i) (x.f2.drop i)))
            case atStart => exact ⟨0, Nat.zero_le _, by omega, rfl, HS, ⟨rfl⟩⟩
            case round =>
              obtain ⟨i, hi, hgi, rfl, HT, HCI⟩ := hrel
              clear HS
              have k2 := (Go.Proofs.YtjgomlcdmpcoaaaDoorW.PrintWords.blk_cell HT.out.xb 2).trans (rfl : _ = some (Value.slice B2 x.f2.length d2))
              have j2 := (Go.Proofs.YtjgomlcdmpcoaaaDoorW.PrintWords.blk_cell HT.out.tb 2).trans (rfl : _ = some (Value.slice A2 t.f2.length c2))
              by_cases hlt : i < x.f2.length
              · have hltz : (i : Int) < (x.f2.length : Int) := by omega
                have hi0 : (0 : Int) ≤ (i : Int) := by omega
                have hst : colsB t.f2 [] x.f2 = (!((x.f2.take i).contains x.f2[i]) && (t.f2.any (fun c => c.f0 == x.f2[i]) && colsB t.f2 (x.f2.take (i + 1)) (x.f2.drop (i + 1)))) := by
                  rw [HCI.out, List.drop_eq_getElem_cons hlt, colsB, List.take_succ_eq_append_getElem hlt]
                obtain ⟨bd, eA, -⟩ := Kd.at_int (Kd.C_below HX.out HT.out.below) (i : Int) (by omega) (by omega)
                cases eA
                obtain ⟨id, hid⟩ : ∃ id, x.f2[i] = id := ⟨_, rfl⟩
                rw [hid] at hst
                have HQ := Lib.hid hid
                have HST := Lib.hid hst
                clear hid hst HCI
                obtain ⟨wo, hwo⟩ : ∃ wo : World, wo = wr := ⟨_, rfl⟩
                subst hwo
                go_wp2_with fail
                go_loopg [6, 7] t.f2.length (fun gg u6 u7 wr => ∃ (k : Nat) (b : Bool), k ≤ t.f2.length ∧ t.f2.length - k ≤ gg ∧ u6 = .bool b ∧ u7 = .int .i64 k ∧ Aside0 (IXt w wr #[.int .i64 t.f0, .string t.f1, .slice A2 t.f2.length c2, .slice A3 t.f3.length c3, .int .i64 t.f4] #[.int .i64 x.f0, .string x.f1, .slice (some bd) x.f2.length d2, .bool x.f3, .int .i64 x.f4]) ∧ Aside0 ((t.f2.take k).any (fun c => c.f0 == id) = b))
                case atStart => exact ⟨0, false, Nat.zero_le _, by omega, rfl, rfl, HT, ⟨rfl⟩⟩
                case round =>
                  obtain ⟨k, b, hk, hgk, rfl, rfl, HT2, HNC⟩ := hrel
                  clear HT k2 j2
                  have k2 := (Go.Proofs.YtjgomlcdmpcoaaaDoorW.PrintWords.blk_cell HT2.out.xb 2).trans (rfl : _ = some (Value.slice (some bd) x.f2.length d2))
                  have j2 := (Go.Proofs.YtjgomlcdmpcoaaaDoorW.PrintWords.blk_cell HT2.out.tb 2).trans (rfl : _ = some (Value.slice A2 t.f2.length c2))
                  by_cases hkl : k < t.f2.length
                  · have hkz : (k : Int) < (t.f2.length : Int) := by omega
                    have hk0 : (0 : Int) ≤ (k : Int) := by omega
                    have hN := at_take hkl (fun c => c.f0 == id)
                    rw [HNC.out] at hN
                    obtain ⟨ad_, eA, p0, -⟩ := at_T75 (Kd.C_below HC.out HT2.out.below) (k : Int) (by omega) (by omega)
                    cases eA
                    obtain ⟨bd_, eA, q0⟩ := Kd.at_int (Kd.C_below HX.out HT2.out.below) (i : Int) (by omega) (by omega)
                    cases eA
                    rw [rd75 _ _ hkl] at p0
                    rw [rd_nat _ _ hlt, HQ.out] at q0
                    simp only [Int.toNat_natCast] at p0 q0
                    generalize t.f2[k].f0 = cid at p0 hN
                    cases b with
                    | true =>
                      have HN2 := Aside0.mk hN
                      clear hN HNC p0 q0
                      go_wp2_with fail
                      go_quiet (fail)
                      go_wp2
                      go_roundg (t.f2.length - (k + 1))
                      case measure => omega
                      case rel => exact ⟨k + 1, true, by omega, by omega, rfl, by go_num, ⟨HT2.out.drew _⟩, HN2⟩
                    | false =>
                      cases hq : (cid == id) with
                      | true =>
                        rw [hq] at hN
                        have HN2 := Aside0.mk hN
                        clear hN HNC
                        go_wp2_with fail
                        go_quiet (fail)
                        go_wp2
                        go_roundg (t.f2.length - (k + 1))
                        case measure => omega
                        case rel => exact ⟨k + 1, true, by omega, by omega, rfl, by go_num, ⟨HT2.out.drew _⟩, HN2⟩
                      | false =>
                        rw [hq] at hN
                        have HN2 := Aside0.mk hN
                        clear hN HNC
                        go_wp2_with fail
                        go_quiet (fail)
                        go_wp2
                        go_roundg (t.f2.length - (k + 1))
                        case measure => omega
                        case rel => exact ⟨k + 1, false, by omega, by omega, rfl, by go_num, ⟨HT2.out.drew _⟩, HN2⟩
                  · obtain rfl : k = t.f2.length := by omega
                    rw [List.take_length] at HNC
                    rw [HNC.out] at HST
                    clear HNC
                    have hjj : ¬ (t.f2.length : Int) < (t.f2.length : Int) := by omega
                    obtain ⟨wo, hwo⟩ : ∃ wo : World, wo = wr := ⟨_, rfl⟩
                    subst hwo
                    go_wp2_with fail
                    go_loopg [6, 8] i (fun gg u6 u8 wr => ∃ (j : Nat) (e : Bool), j ≤ i ∧ i - j ≤ gg ∧ u6 = .bool e ∧ u8 = .int .i64 j ∧ Aside0 (IXt w wr #[.int .i64 t.f0, .string t.f1, .slice A2 t.f2.length c2, .slice A3 t.f3.length c3, .int .i64 t.f4] #[.int .i64 x.f0, .string x.f1, .slice (some bd) x.f2.length d2, .bool x.f3, .int .i64 x.f4]) ∧ Aside0 ((b && !(x.f2.take j).contains id) = e))
                    case atStart => exact ⟨0, b, Nat.zero_le _, by omega, rfl, rfl, HT2, ⟨Bool.and_true _⟩⟩
                    case round =>
                      obtain ⟨j, e, hj, hgj, rfl, rfl, HT3, HNC⟩ := hrel
                      clear HT2 k2 j2
                      have k2 := (Go.Proofs.YtjgomlcdmpcoaaaDoorW.PrintWords.blk_cell HT3.out.xb 2).trans (rfl : _ = some (Value.slice (some bd) x.f2.length d2))
                      by_cases hjl : j < i
                      · have hjz : (j : Int) < (i : Int) := by omega
                        have hjz2 : (j : Int) < (x.f2.length : Int) := by omega
                        have hj0 : (0 : Int) ≤ (j : Int) := by omega
                        have hjL : j < x.f2.length := by omega
                        obtain ⟨bd_, eA, q0⟩ := Kd.at_int (Kd.C_below HX.out HT3.out.below) (i : Int) (by omega) (by omega)
                        cases eA
                        obtain ⟨bd_, eA, p0⟩ := Kd.at_int (Kd.C_below HX.out HT3.out.below) (j : Int) (by omega) (by omega)
                        cases eA
                        rw [rd_nat _ _ hlt, HQ.out] at q0
                        rw [rd_nat _ _ hjL] at p0
                        simp only [Int.toNat_natCast] at p0 q0
                        have hN : (b && !(x.f2.take (j + 1)).contains id) = (e && !(id == x.f2[j])) := by rw [ct_take hjL, Bool.not_or, ← Bool.and_assoc, HNC.out]
                        generalize x.f2[j] = y at p0 hN
                        cases e with
                        | false =>
                          have HN2 := Aside0.mk hN
                          clear hN HNC p0 q0
                          go_wp2_with fail
                          go_quiet (fail)
                          go_wp2
                          go_roundg (i - (j + 1))
                          case measure => omega
                          case rel => exact ⟨j + 1, false, by omega, by omega, rfl, by go_num, ⟨HT3.out.drew _⟩, HN2⟩
                        | true =>
                          cases hq : (id == y) with
                          | true =>
                            rw [hq] at hN
                            have HN2 := Aside0.mk hN
                            have ht : (y != id) = false := by rw [bne, beq_comm_int, hq]; rfl
                            clear hN HNC hq
                            go_wp2_with fail
                            go_quiet (fail)
                            go_wp2
                            go_roundg (i - (j + 1))
                            case measure => omega
                            case rel => exact ⟨j + 1, false, by omega, by omega, rfl, by go_num, ⟨HT3.out.drew _⟩, HN2⟩
                          | false =>
                            rw [hq] at hN
                            have HN2 := Aside0.mk hN
                            have ht : (y != id) = true := by rw [bne, beq_comm_int, hq]; rfl
                            clear hN HNC hq
                            go_wp2_with fail
                            go_quiet (fail)
                            go_wp2
                            go_roundg (i - (j + 1))
                            case measure => omega
                            case rel => exact ⟨j + 1, true, by omega, by omega, rfl, by go_num, ⟨HT3.out.drew _⟩, HN2⟩
                      · obtain rfl : j = i := by omega
                        have hjj : ¬ (j : Int) < (j : Int) := by omega
                        have hst : colsB t.f2 [] x.f2 = (e && colsB t.f2 (x.f2.take (j + 1)) (x.f2.drop (j + 1))) := by
                          rw [HST.out, ← HNC.out]
                          cases b <;> cases (x.f2.take j).contains id <;> rfl
                        have HST2 := Lib.hid hst
                        clear hst HNC k2
                        cases e with
                        | false =>
                          go_wp2
                          go_ret
                          exact ⟨by rw [HI.out, HST2.out] <;> rfl, HT3.out.below⟩
                        | true =>
                          go_wp2
                          go_roundg (x.f2.length - (j + 1))
                          case measure => omega
                          case rel => exact ⟨j + 1, by omega, by omega, by go_num, HT3, ⟨HST2.out⟩⟩
              · have hltz : ¬ (i : Int) < (x.f2.length : Int) := by omega
                have HF := Lib.hid (show colsB t.f2 [] x.f2 = true by rw [HCI.out, List.drop_eq_nil_of_le (by omega)]; rfl)
                go_wp2
                go_ret
                exact ⟨by rw [HI.out, HF.out] <;> rfl, HT.out.below⟩
end Go.Proofs.YtjgomlcdmpcoaaaDoor.H
namespace Go.Proofs.YtjgomlcdmpcoaaaDoor.H
open Go.RowKit Go.Proofs.YtjgomlcdmpcoaaaDoorW.PrintWords Go.Proofs.YtjgomlcdmpcoaaaDoorW.PrintLast Go.Proofs.YtjgomlcdmpcoaaaDoorW.PrintMore
open Go.Proofs.YtjgomlcdmpcoaaaDoor.D Go.Proofs.YtjgomlcdmpcoaaaDoor
set_option linter.unusedVariables false
set_option linter.unusedSimpArgs false
def rcolsB : List (List UInt8) → List S75 → Bool
  | _, [] => true
  | ns, c :: r => !ns.contains (nm c.f1) && (columnB c && rcolsB (ns ++ [nm c.f1]) r)
def rindsB (t : S70) : List (List UInt8) → List S98 → Bool
  | _, [] => true
  | ns, x :: r => !ns.contains (nm x.f1) && (indexB t x && rindsB t (ns ++ [nm x.f1]) r)
def idsB (next : Int) : List Int → List Int → Bool
  | _, [] => true
  | pre, i :: r => fitsB next pre i && idsB next (pre ++ [i]) r
theorem tcols_parts (next : Int) : ∀ (l : List S75) (ids : List Int) (ns : List (List UInt8)), tcolsB next ids ns l = (rcolsB ns l && idsB next ids (l.map (·.f0)))
  | [], _, _ => rfl
  | c :: l, ids, ns => by
    rw [tcolsB, rcolsB, tcols_parts next l, List.map_cons, idsB]
    cases fitsB next ids c.f0 <;> cases ns.contains (nm c.f1) <;> cases columnB c <;> cases rcolsB (ns ++ [nm c.f1]) l <;> simp
theorem tinds_parts (t : S70) : ∀ (l : List S98) (ids : List Int) (ns : List (List UInt8)), tindsB t ids ns l = (rindsB t ns l && idsB t.f4 ids (l.map (·.f0)))
  | [], _, _ => rfl
  | c :: l, ids, ns => by
    rw [tindsB, rindsB, tinds_parts t l, List.map_cons, idsB]
    cases fitsB t.f4 ids c.f0 <;> cases ns.contains (nm c.f1) <;> cases indexB t c <;> cases rindsB t (ns ++ [nm c.f1]) l <;> simp
theorem ids_append (next : Int) : ∀ (l r pre : List Int), idsB next pre (l ++ r) = (idsB next pre l && idsB next (pre ++ l) r)
  | [], r, pre => by simp [idsB]
  | i :: l, r, pre => by
    rw [List.cons_append, idsB, idsB, ids_append next l r, Bool.and_assoc, List.append_assoc]
    rfl
theorem rcol_calls (c : S75) (h : ValWf c.f5) (w : World) : Calls Tryd.prog 126 #[.agg #[.int .i64 c.f0, .string c.f1, .int .i64 c.f2, .int .i64 c.f3, .int .i64 c.f4, .int .i64 c.f5.f0, .int .i64 c.f5.f1, .int .u64 c.f5.f2, .string c.f5.f3]] w
    fun e w' => e = .returned (.bool (columnB c)) ∧ Below w.heap.size w w' :=
  rcol126 c h w
theorem below_of_drew' {w w1 : World} (h : Below w.drew.heap.size w.drew w1) : Below w.heap.size w w1 := ⟨h.os, h.tape, h.output, h.size, h.block⟩
theorem add_zero' (ad : Addr) : ad.add 0 = ad := by unfold Addr.add; simp
theorem ct_no {α : Type} [BEq α] [LawfulBEq α] {l : List α} {j : Nat} {x : α} (h : j < l.length) (h1 : (l.take j).contains x = false) (h2 : l[j] ≠ x) : (l.take (j + 1)).contains x = false := by
  rw [List.take_succ_eq_append_getElem h, List.contains_append, h1, Bool.false_or, List.contains_cons, beq_eq_false_iff_ne.2 (Ne.symm h2)]
  rfl
theorem ct_yes {α : Type} [BEq α] [LawfulBEq α] {l : List α} {j n : Nat} {x : α} (hl : j < l.length) (h : j < n) (h2 : l[j] = x) : (l.take n).contains x = true := by
  rw [List.contains_iff_mem, List.mem_take_iff_getElem]
  exact ⟨j, by omega, h2⟩
structure RSt (w wr : World) (bx : Array Value) (v : Value) (ids : List Int) : Prop where
  below : Below w.heap.size w wr
  box : wr.heap[w.heap.size]? = some (.cells bx 70 (0, 0))
  row : Kd.R (Kd.int .i64) 3 wr w.heap.size (fun _ => True) v ids
theorem RSt.step {w wr w' : World} {bx : Array Value} {v : Value} {ids : List Int} (h : RSt w wr bx v ids) (hb : Below wr.heap.size wr w') : RSt w w' bx v ids :=
  ⟨below_then h.below h.below.size hb, blk_below h.box hb, Kd.R_below h.row hb⟩
theorem RSt.drew {w wr : World} {bx : Array Value} {v : Value} {ids : List Int} (h : RSt w wr bx v ids) (n : Nat) : RSt w (wr.drewN n) bx v ids := h.step (pw_below_drewN (Below.refl _ _) n)
def rtabB (t : S70) : Bool := decide (1 ≤ t.f4) && (decide (t.f4 ≤ 60000) && (decide (1 ≤ t.f2.length) && (decide (t.f2.length ≤ 8) && (decide (t.f3.length ≤ 4) && (keyB t && (rcolsB [] t.f2 && (rindsB t [] t.f3 && idsB t.f4 [] (t.f2.map (·.f0) ++ t.f3.map (·.f0)))))))))
theorem table_parts (t : S70) : tableB t = (nameB t.f1 && rtabB t) := by
  unfold tableB rtabB
  rw [tcols_parts, tinds_parts, ids_append, List.nil_append]
  cases nameB t.f1 <;> cases keyB t <;> cases rcolsB [] t.f2 <;> cases rindsB t [] t.f3 <;> cases idsB t.f4 [] (t.f2.map (·.f0)) <;> simp
set_option maxRecDepth 100000 in
set_option maxHeartbeats 16000000 in
theorem rtable_may (t : S70) (hw : ∀ c ∈ t.f2, ValWf c.f5) (A2 : Option Addr) (c2 : Nat) (A3 : Option Addr) (c3 : Nat) (w : World)
    (hc2 : t.f2.length ≤ c2) (g2 : k75.C w A2 t.f2.length t.f2) (hc3 : t.f3.length ≤ c3) (g3 : k98.C w A3 t.f3.length t.f3) :
    Calls Tryd.prog 75 #[.agg #[.int .i64 t.f0, .string t.f1, .slice A2 t.f2.length c2, .slice A3 t.f3.length c3, .int .i64 t.f4]] w fun e w' => e = .returned (.bool (tableB t)) ∧ Below w.heap.size w w' := by
  have HN := Lib.hid (fun w => rnam_calls t.f1 w)
  have HCL := Lib.hid rcol_calls
  have HIL := Lib.hid (rind_calls t)
  have HC := Aside0.mk g2
  have HX := Aside0.mk g3
  have HW := Aside0.mk hw
  have big2 := g2.2.1
  have big3 := g3.2.1
  have hI : tableB t = (nameB t.f1 && (decide (1 ≤ t.f4) && (decide (t.f4 ≤ 60000) && (decide (1 ≤ t.f2.length) && (decide (t.f2.length ≤ 8) && (decide (t.f3.length ≤ 4) && (keyB t && (rcolsB [] t.f2 && (rindsB t [] t.f3 && idsB t.f4 [] (t.f2.map (·.f0) ++ t.f3.map (·.f0))))))))))) := table_parts t
  generalize tableB t = R at hI ⊢
  generalize nameB t.f1 = nb at hI HN
  have HBX := Aside0.mk (heap_alloc_new w (.cells #[.int .i64 t.f0, .string t.f1, .slice A2 t.f2.length c2, .slice A3 t.f3.length c3, .int .i64 t.f4] 70))
  clear g2 g3 hw
  go_enter Tryd.func75, Tryd.ntmps75
  go_wp2_with fail
  refine (HN.out _).mono ?_
  rintro e w1 ⟨rfl, hb1⟩
  have hbx := blk_below HBX.out hb1
  have HB1 := Aside0.mk (below_then (below_alloc (Below.refl _ _) _) (by simp) hb1)
  have k2 := (Go.Proofs.YtjgomlcdmpcoaaaDoorW.PrintWords.blk_cell hbx 2).trans (rfl : _ = some (Value.slice A2 t.f2.length c2))
  have k3 := (Go.Proofs.YtjgomlcdmpcoaaaDoorW.PrintWords.blk_cell hbx 3).trans (rfl : _ = some (Value.slice A3 t.f3.length c3))
  have k4 := (Go.Proofs.YtjgomlcdmpcoaaaDoorW.PrintWords.blk_cell hbx 4).trans (rfl : _ = some (Value.int .i64 t.f4))
  have HBX1 := Aside0.mk hbx
  clear hb1 hbx
  cases nb with
  | false =>
    have HI := Lib.hid hI
    clear hI
    go_wp2
    go_ret
    exact ⟨by rw [HI.out]; rfl, HB1.out⟩
  | true =>
    rw [Bool.true_and] at hI
    cases q1 : decide (1 ≤ t.f4) with
    | false =>
      have e0 : decide (t.f4 < 1) = true := decide_eq_true (by have := of_decide_eq_false q1; omega)
      rw [q1] at hI
      have HI := Lib.hid hI
      clear hI q1
      go_wp2
      go_ret
      exact ⟨by rw [HI.out]; rfl, HB1.out⟩
    | true =>
      rw [q1, Bool.true_and] at hI
      have z0 := of_decide_eq_true q1
      have e0 : decide (t.f4 < 1) = false := decide_eq_false (by omega)
      clear q1
      cases q2 : decide (t.f4 ≤ 60000) with
      | false =>
        have e1 : decide (60000 < t.f4) = true := decide_eq_true (by have := of_decide_eq_false q2; omega)
        rw [q2] at hI
        have HI := Lib.hid hI
        clear hI q2
        go_wp2
        go_ret
        exact ⟨by rw [HI.out]; rfl, HB1.out⟩
      | true =>
        rw [q2, Bool.true_and] at hI
        have z1 := of_decide_eq_true q2
        have e1 : decide (60000 < t.f4) = false := decide_eq_false (by omega)
        clear q2
        cases q3 : decide (1 ≤ t.f2.length) with
        | false =>
          have e2 : decide ((t.f2.length : Int) < 1) = true := decide_eq_true (by have := of_decide_eq_false q3; omega)
          rw [q3] at hI
          have HI := Lib.hid hI
          clear hI q3
          go_wp2
          go_ret
          exact ⟨by rw [HI.out]; rfl, HB1.out⟩
        | true =>
          rw [q3, Bool.true_and] at hI
          have z2 := of_decide_eq_true q3
          have e2 : decide ((t.f2.length : Int) < 1) = false := decide_eq_false (by omega)
          clear q3
          cases q4 : decide (t.f2.length ≤ 8) with
          | false =>
            have e3 : decide (8 < (t.f2.length : Int)) = true := decide_eq_true (by have := of_decide_eq_false q4; omega)
            rw [q4] at hI
            have HI := Lib.hid hI
            clear hI q4
            go_wp2
            go_ret
            exact ⟨by rw [HI.out]; rfl, HB1.out⟩
          | true =>
            rw [q4, Bool.true_and] at hI
            have z3 := of_decide_eq_true q4
            have e3 : decide (8 < (t.f2.length : Int)) = false := decide_eq_false (by omega)
            clear q4
            cases q5 : decide (t.f3.length ≤ 4) with
            | false =>
              have e4 : decide (4 < (t.f3.length : Int)) = true := decide_eq_true (by have := of_decide_eq_false q5; omega)
              rw [q5] at hI
              have HI := Lib.hid hI
              clear hI q5
              go_wp2
              go_ret
              exact ⟨by rw [HI.out]; rfl, HB1.out⟩
            | true =>
              rw [q5, Bool.true_and] at hI
              have z4 := of_decide_eq_true q5
              have e4 : decide (4 < (t.f3.length : Int)) = false := decide_eq_false (by omega)
              clear q5
              have h0l : 0 < t.f2.length := by omega
              obtain ⟨ad, eA, h0, h1, h2, h3, h4, h5, h6, h7, h8⟩ := at_T75 (Kd.C_below HC.out HB1.out) 0 (by omega) (by omega)
              rw [show rd_T75 t.f2 0 = t.f2[0] from rd75 t.f2 0 h0l] at h0 h1 h2 h3 h4 h5 h6 h7 h8
              rw [keyB_of t h0l] at hI
              cases eA
              simp only [Int.toNat_zero, Nat.zero_mul, add_zero'] at h0 h1 h2 h3 h4 h5 h6 h7 h8
              generalize t.f2[0] = c0 at h0 h1 h2 h3 h4 h5 h6 h7 h8 hI
              cases s1 : (c0.f3 == 4) with
              | false =>
                rw [s1] at hI
                have t0 : (c0.f3 != 4) = true := by rw [bne, s1]; rfl
                have HI := Lib.hid hI
                clear hI s1
                go_wp2
                go_ret
                exact ⟨by rw [HI.out]; rfl, below_alloc HB1.out _⟩
              | true =>
                rw [s1] at hI
                simp only [Bool.true_and] at hI
                have t0 : (c0.f3 != 4) = false := by rw [bne, s1]; rfl
                clear s1
                cases s2 : (c0.f4 == 4) with
                | false =>
                  rw [s2] at hI
                  have t1 : (c0.f4 != 4) = true := by rw [bne, s2]; rfl
                  have HI := Lib.hid hI
                  clear hI s2
                  go_wp2
                  go_ret
                  exact ⟨by rw [HI.out]; rfl, below_alloc HB1.out _⟩
                | true =>
                  rw [s2] at hI
                  simp only [Bool.true_and] at hI
                  have t1 : (c0.f4 != 4) = false := by rw [bne, s2]; rfl
                  clear s2
                  cases s3 : (c0.f5.f0 == 0) with
                  | false =>
                    rw [s3] at hI
                    have t2 : (c0.f5.f0 != 0) = true := by rw [bne, s3]; rfl
                    have HI := Lib.hid hI
                    clear hI s3
                    go_wp2
                    go_ret
                    exact ⟨by rw [HI.out]; rfl, below_alloc HB1.out _⟩
                  | true =>
                    rw [s3] at hI
                    simp only [Bool.true_and] at hI
                    have t2 : (c0.f5.f0 != 0) = false := by rw [bne, s3]; rfl
                    clear s3
                    have HI := Lib.hid hI
                    clear hI
                    have HS := Aside0.mk (show RSt w (w1.alloc (.cells #[.int .i64 c0.f0, .string c0.f1, .int .i64 c0.f2, .int .i64 c0.f3, .int .i64 c0.f4, .int .i64 c0.f5.f0, .int .i64 c0.f5.f1, .int .u64 c0.f5.f2, .string c0.f5.f3] 75)) #[.int .i64 t.f0, .string t.f1, .slice (some ad) t.f2.length c2, .slice A3 t.f3.length c3, .int .i64 t.f4] (.slice none 0 0) [] from ⟨below_alloc HB1.out _, blk_alloc HBX1.out _, Kd.R_nil _ _ _ _ _⟩)
                    go_wp2_with fail
                    go_loopg [4, 5] t.f2.length (fun gg u4 u5 wr => ∃ kk : Nat, kk ≤ t.f2.length ∧ t.f2.length - kk ≤ gg ∧ u5 = .int .i64 kk ∧ Aside0 (RSt w wr #[.int .i64 t.f0, .string t.f1, .slice (some ad) t.f2.length c2, .slice A3 t.f3.length c3, .int .i64 t.f4] u4 ((t.f2.map (·.f0)).take kk)) ∧ Aside0 (rcolsB [] t.f2 = rcolsB ((t.f2.map fun c => nm c.f1).take kk) (t.f2.drop kk)))
                    case atStart => exact ⟨0, Nat.zero_le _, by omega, rfl, ⟨by simpa using HS.out⟩, ⟨by simp⟩⟩
                    case round =>
                      obtain ⟨kk, hkk, hgg, rfl, HT, HCI⟩ := hrel
                      clear HS
                      have k2 := (Go.Proofs.YtjgomlcdmpcoaaaDoorW.PrintWords.blk_cell HT.out.box 2).trans (rfl : _ = some (Value.slice (some ad) t.f2.length c2))
                      by_cases hlt : kk < t.f2.length
                      · have hltz : (kk : Int) < (t.f2.length : Int) := by omega
                        have hnl : kk < (t.f2.map fun c => nm c.f1).length := by rw [List.length_map]; exact hlt
                        have hd : t.f2.drop kk = t.f2[kk] :: t.f2.drop (kk + 1) := List.drop_eq_getElem_cons hlt
                        have hst : rcolsB [] t.f2 = (!((t.f2.map fun c => nm c.f1).take kk).contains (nm t.f2[kk].f1) && (columnB t.f2[kk] && rcolsB ((t.f2.map fun c => nm c.f1).take (kk + 1)) (t.f2.drop (kk + 1)))) := by
                          rw [HCI.out, hd, rcolsB, List.take_succ_eq_append_getElem hnl, List.getElem_map]
                        have HTI := Lib.hid (show ((t.f2.map (·.f0)).take (kk + 1)) = ((t.f2.map (·.f0)).take kk) ++ [t.f2[kk].f0] by rw [List.take_succ_eq_append_getElem (by rw [List.length_map]; exact hlt), List.getElem_map])
                        have hil : ((t.f2.map (·.f0)).take kk).length < 50 := by simp only [List.length_append, List.length_take, List.length_map]; omega
                        have HWC := Lib.hid (HW.out _ (List.getElem_mem hlt))
                        obtain ⟨c, hc⟩ : ∃ c, t.f2[kk] = c := ⟨_, rfl⟩
                        rw [hc] at hst HTI HWC
                        have HCQ := Lib.hid hc
                        have HST := Lib.hid hst
                        clear HCI hd hst hc hnl
                        obtain ⟨wo, hwo⟩ : ∃ wo : World, wo = wr := ⟨_, rfl⟩
                        subst hwo
                        go_wp2_with fail
                        go_loopg [6] kk (fun gg u6 wr => ∃ j : Nat, j ≤ kk ∧ kk - j ≤ gg ∧ u6 = .int .i64 j ∧ Aside0 (RSt w wr #[.int .i64 t.f0, .string t.f1, .slice (some ad) t.f2.length c2, .slice A3 t.f3.length c3, .int .i64 t.f4] u4 ((t.f2.map (·.f0)).take kk)) ∧ Aside0 (((t.f2.map fun c => nm c.f1).take j).contains (nm c.f1) = false))
                        case atStart => exact ⟨0, Nat.zero_le _, by omega, rfl, HT, ⟨rfl⟩⟩
                        case round =>
                          obtain ⟨j, hj, hgj, rfl, HT2, HNC⟩ := hrel
                          clear HT k2
                          have k2 := (Go.Proofs.YtjgomlcdmpcoaaaDoorW.PrintWords.blk_cell HT2.out.box 2).trans (rfl : _ = some (Value.slice (some ad) t.f2.length c2))
                          by_cases hjl : j < kk
                          · have hjz : (j : Int) < (kk : Int) := by omega
                            obtain ⟨ad_, eA, -, p1, -⟩ := at_T75 (Kd.C_below HC.out HT2.out.below) (j : Int) (by omega) (by omega)
                            cases eA
                            obtain ⟨ad_, eA, -, q1, -⟩ := at_T75 (Kd.C_below HC.out HT2.out.below) (kk : Int) (by omega) (by omega)
                            cases eA
                            rw [rd75 _ _ (by omega)] at p1
                            rw [rd75 _ _ hlt, HCQ.out] at q1
                            simp only [Int.toNat_natCast] at p1 q1
                            have hjz2 : (j : Int) < (t.f2.length : Int) := by omega
                            have hj0 : (0 : Int) ≤ (j : Int) := by omega
                            have hk0 : (0 : Int) ≤ (kk : Int) := by omega
                            have hnj : j < (t.f2.map fun c => nm c.f1).length := by rw [List.length_map]; omega
                            have hgj2 : (t.f2.map fun c => nm c.f1)[j] = nm (t.f2[j]'(by omega)).f1 := List.getElem_map ..
                            generalize (t.f2[j]'(by omega)).f1 = nj at p1 hgj2
                            by_cases hq : nm nj = nm c.f1
                            · have HF := Lib.hid (show rcolsB [] t.f2 = false by rw [HST.out, ct_yes hnj hjl (hgj2.trans hq)]; rfl)
                              have te : (nj.toList == c.f1.toList) = true := by rw [ByteArray.toList_eq, ByteArray.toList_eq]; exact beq_iff_eq.2 hq
                              clear hq hgj2 hnj
                              go_wp2_with fail
                              go_quiet (fail)
                              go_wp2
                              go_ret
                              exact ⟨by rw [HI.out, HF.out]; rfl, (HT2.out.drew _).below⟩
                            · have HN2 := Aside0.mk (ct_no hnj HNC.out (by rw [hgj2]; exact hq))
                              have te : (nj.toList == c.f1.toList) = false := by rw [ByteArray.toList_eq, ByteArray.toList_eq]; exact beq_eq_false_iff_ne.2 hq
                              clear hq hgj2 hnj HNC
                              go_wp2_with fail
                              go_quiet (fail)
                              go_wp2
                              go_roundg (kk - (j + 1))
                              case measure => omega
                              case rel => exact ⟨j + 1, by omega, by omega, by go_num, ⟨HT2.out.drew _⟩, HN2⟩
                          · obtain rfl : j = kk := by omega
                            obtain ⟨ad_, eA, h0, h1, h2, h3, h4, h5, h6, h7, h8⟩ := at_T75 (Kd.C_below HC.out HT2.out.below) (j : Int) (by omega) (by omega)
                            cases eA
                            rw [rd75 _ _ hlt, HCQ.out] at h0 h1 h2 h3 h4 h5 h6 h7 h8
                            simp only [Int.toNat_natCast] at h0 h1 h2 h3 h4 h5 h6 h7 h8
                            have HC1 := Lib.hid (fun w => HCL.out c HWC.out w)
                            generalize columnB c = cb at HST HC1
                            have hjj : ¬ (j : Int) < (j : Int) := by omega
                            go_wp2_with fail
                            refine (HC1.out _).mono ?_
                            rintro e w2 ⟨rfl, hb2⟩
                            have HT3 := Aside0.mk (HT2.out.step hb2)
                            have g0 := pw_cell_below hb2 h0
                            clear h0 h1 h2 h3 h4 h5 h6 h7 h8 k2 hb2
                            have k2 := (Go.Proofs.YtjgomlcdmpcoaaaDoorW.PrintWords.blk_cell HT3.out.box 2).trans (rfl : _ = some (Value.slice (some ad) t.f2.length c2))
                            cases cb with
                            | false =>
                              have HF := Lib.hid (show rcolsB [] t.f2 = false by rw [HST.out, HNC.out]; rfl)
                              go_wp2
                              go_ret
                              exact ⟨by rw [HI.out, HF.out]; rfl, HT3.out.below⟩
                            | true =>
                              have HST2 := Lib.hid (show rcolsB [] t.f2 = rcolsB ((t.f2.map fun c => nm c.f1).take (j + 1)) (t.f2.drop (j + 1)) by rw [HST.out, HNC.out]; rfl)
                              go_wp2_with ((with_reducible refine gate_builtin (b := .append) (xs := #[.tmp 93, .tmp 100]) rfl ?_); at_builtin; refine Kd.R_append (Kd.int .i64) (w0 := w) w.heap.size rfl (.tmp 93) (.tmp 100) 40 3 (.int .i64 0) 8 rfl Tryd.underlying40 info3 rfl (by decide) (by omega) u4 ((t.f2.map (·.f0)).take j) c.f0 [.int .i64 c.f0] (fun _ => True) (fun _ => False) rfl rfl rfl (fun _ hk => hk.elim) (fun _ _ => trivial) HT3.out.row HT3.out.below HT3.out.below.size (by omega) ?_; intro v1 w3 ho hb hg hat; have HT4 := Aside0.mk (show RSt w w3 #[.int .i64 t.f0, .string t.f1, .slice (some ad) t.f2.length c2, .slice A3 t.f3.length c3, .int .i64 t.f4] v1 _ from ⟨hb, blk_grown HT3.out.box hg (Kd.R_ne HT3.out.row HT3.out.box (by decide)), ho⟩); clear ho hb hg hat)
                              rw [← HTI.out] at HT4
                              go_roundg (t.f2.length - (j + 1))
                              case measure => omega
                              case rel => exact ⟨j + 1, by omega, by omega, by go_num, HT4, ⟨HST2.out⟩⟩
                      · have hltz : ¬ (kk : Int) < (t.f2.length : Int) := by omega
                        have hRC : rcolsB [] t.f2 = true := by rw [HCI.out, List.drop_eq_nil_of_le (by omega)]; rfl
                        have HRC := Lib.hid hRC
                        have hall : (t.f2.map (·.f0)).take kk = t.f2.map (·.f0) := List.take_of_length_le (by rw [List.length_map]; omega)
                        rw [hall] at HT
                        have HS := HT
                        clear HT HCI hall hRC
                        have k3 := (Go.Proofs.YtjgomlcdmpcoaaaDoorW.PrintWords.blk_cell HS.out.box 3).trans (rfl : _ = some (Value.slice A3 t.f3.length c3))
                        obtain ⟨wo, hwo⟩ : ∃ wo : World, wo = wr := ⟨_, rfl⟩
                        subst hwo
                        go_wp2_with fail
                        go_loopg [4, 7] t.f3.length (fun gg u4 u5 wr => ∃ kk : Nat, kk ≤ t.f3.length ∧ t.f3.length - kk ≤ gg ∧ u5 = .int .i64 kk ∧ Aside0 (RSt w wr #[.int .i64 t.f0, .string t.f1, .slice (some ad) t.f2.length c2, .slice A3 t.f3.length c3, .int .i64 t.f4] u4 (t.f2.map (·.f0) ++ (t.f3.map (·.f0)).take kk)) ∧ Aside0 (rindsB t [] t.f3 = rindsB t ((t.f3.map fun c => nm c.f1).take kk) (t.f3.drop kk)))
                        case atStart => exact ⟨0, Nat.zero_le _, by omega, rfl, ⟨by simpa using HS.out⟩, ⟨by simp⟩⟩
                        case round =>
                          obtain ⟨kk, hkk, hgg, rfl, HT, HCI⟩ := hrel
                          clear HS
                          have k3 := (Go.Proofs.YtjgomlcdmpcoaaaDoorW.PrintWords.blk_cell HT.out.box 3).trans (rfl : _ = some (Value.slice A3 t.f3.length c3))
                          by_cases hlt : kk < t.f3.length
                          · have hltz : (kk : Int) < (t.f3.length : Int) := by omega
                            obtain ⟨ad3, _, _, eA, -⟩ := at_T98 (Kd.C_below HX.out HT.out.below) (kk : Int) (by omega) (by omega)
                            cases eA
                            have hnl : kk < (t.f3.map fun c => nm c.f1).length := by rw [List.length_map]; exact hlt
                            have hd : t.f3.drop kk = t.f3[kk] :: t.f3.drop (kk + 1) := List.drop_eq_getElem_cons hlt
                            have hst : rindsB t [] t.f3 = (!((t.f3.map fun c => nm c.f1).take kk).contains (nm t.f3[kk].f1) && (indexB t t.f3[kk] && rindsB t ((t.f3.map fun c => nm c.f1).take (kk + 1)) (t.f3.drop (kk + 1)))) := by
                              rw [HCI.out, hd, rindsB, List.take_succ_eq_append_getElem hnl, List.getElem_map]
                            have HTI := Lib.hid (show (t.f2.map (·.f0) ++ (t.f3.map (·.f0)).take (kk + 1)) = (t.f2.map (·.f0) ++ (t.f3.map (·.f0)).take kk) ++ [t.f3[kk].f0] by rw [List.take_succ_eq_append_getElem (by rw [List.length_map]; exact hlt), List.getElem_map, List.append_assoc])
                            have hil : (t.f2.map (·.f0) ++ (t.f3.map (·.f0)).take kk).length < 50 := by simp only [List.length_append, List.length_take, List.length_map]; omega
                            obtain ⟨c, hc⟩ : ∃ c, t.f3[kk] = c := ⟨_, rfl⟩
                            rw [hc] at hst HTI
                            have HCQ := Lib.hid hc
                            have HST := Lib.hid hst
                            clear HCI hd hst hc hnl
                            obtain ⟨wo, hwo⟩ : ∃ wo : World, wo = wr := ⟨_, rfl⟩
                            subst hwo
                            go_wp2_with fail
                            go_loopg [8] kk (fun gg u6 wr => ∃ j : Nat, j ≤ kk ∧ kk - j ≤ gg ∧ u6 = .int .i64 j ∧ Aside0 (RSt w wr #[.int .i64 t.f0, .string t.f1, .slice (some ad) t.f2.length c2, .slice (some ad3) t.f3.length c3, .int .i64 t.f4] u4 (t.f2.map (·.f0) ++ (t.f3.map (·.f0)).take kk)) ∧ Aside0 (((t.f3.map fun c => nm c.f1).take j).contains (nm c.f1) = false))
                            case atStart => exact ⟨0, Nat.zero_le _, by omega, rfl, HT, ⟨rfl⟩⟩
                            case round =>
                              obtain ⟨j, hj, hgj, rfl, HT2, HNC⟩ := hrel
                              clear HT k3
                              have k3 := (Go.Proofs.YtjgomlcdmpcoaaaDoorW.PrintWords.blk_cell HT2.out.box 3).trans (rfl : _ = some (Value.slice (some ad3) t.f3.length c3))
                              by_cases hjl : j < kk
                              · have hjz : (j : Int) < (kk : Int) := by omega
                                obtain ⟨ad_, _, _, eA, -, p1, -⟩ := at_T98 (Kd.C_below HX.out HT2.out.below) (j : Int) (by omega) (by omega)
                                cases eA
                                obtain ⟨ad_, _, _, eA, -, q1, -⟩ := at_T98 (Kd.C_below HX.out HT2.out.below) (kk : Int) (by omega) (by omega)
                                cases eA
                                rw [rd98 _ _ (by omega)] at p1
                                rw [rd98 _ _ hlt, HCQ.out] at q1
                                simp only [Int.toNat_natCast] at p1 q1
                                have hjz2 : (j : Int) < (t.f3.length : Int) := by omega
                                have hj0 : (0 : Int) ≤ (j : Int) := by omega
                                have hk0 : (0 : Int) ≤ (kk : Int) := by omega
                                have hnj : j < (t.f3.map fun c => nm c.f1).length := by rw [List.length_map]; omega
                                have hgj2 : (t.f3.map fun c => nm c.f1)[j] = nm (t.f3[j]'(by omega)).f1 := List.getElem_map ..
                                generalize (t.f3[j]'(by omega)).f1 = nj at p1 hgj2
                                by_cases hq : nm nj = nm c.f1
                                · have HF := Lib.hid (show rindsB t [] t.f3 = false by rw [HST.out, ct_yes hnj hjl (hgj2.trans hq)]; rfl)
                                  have te : (nj.toList == c.f1.toList) = true := by rw [ByteArray.toList_eq, ByteArray.toList_eq]; exact beq_iff_eq.2 hq
                                  clear hq hgj2 hnj
                                  go_wp2_with fail
                                  go_quiet (fail)
                                  go_wp2
                                  go_ret
                                  exact ⟨by rw [HI.out, HRC.out, HF.out]; rfl, (HT2.out.drew _).below⟩
                                · have HN2 := Aside0.mk (ct_no hnj HNC.out (by rw [hgj2]; exact hq))
                                  have te : (nj.toList == c.f1.toList) = false := by rw [ByteArray.toList_eq, ByteArray.toList_eq]; exact beq_eq_false_iff_ne.2 hq
                                  clear hq hgj2 hnj HNC
                                  go_wp2_with fail
                                  go_quiet (fail)
                                  go_wp2
                                  go_roundg (kk - (j + 1))
                                  case measure => omega
                                  case rel => exact ⟨j + 1, by omega, by omega, by go_num, ⟨HT2.out.drew _⟩, HN2⟩
                              · obtain rfl : j = kk := by omega
                                obtain ⟨ad_, B2, d2, eA, h0, h1, h2, h3, h4, hd2, hcols⟩ := at_T98 (Kd.C_below HX.out HT2.out.below) (j : Int) (by omega) (by omega)
                                cases eA
                                rw [rd98 _ _ hlt, HCQ.out] at h0 h1 h2 h3 h4 hd2 hcols
                                simp only [Int.toNat_natCast] at h0 h1 h2 h3 h4
                                have k0 := (Go.Proofs.YtjgomlcdmpcoaaaDoorW.PrintWords.blk_cell HT2.out.box 0).trans (rfl : _ = some (Value.int .i64 t.f0))
                                have k1 := (Go.Proofs.YtjgomlcdmpcoaaaDoorW.PrintWords.blk_cell HT2.out.box 1).trans (rfl : _ = some (Value.string t.f1))
                                have k2 := (Go.Proofs.YtjgomlcdmpcoaaaDoorW.PrintWords.blk_cell HT2.out.box 2).trans (rfl : _ = some (Value.slice (some ad) t.f2.length c2))
                                have k4 := (Go.Proofs.YtjgomlcdmpcoaaaDoorW.PrintWords.blk_cell HT2.out.box 4).trans (rfl : _ = some (Value.int .i64 t.f4))
                                have HC1 := Lib.hid (fun (w' : World) (hb : Below w.heap.size w w') (hq : (Kd.int .i64).C w' B2 c.f2.length c.f2) => HIL.out c (by omega) (some ad) c2 (some ad3) c3 B2 d2 w' hc2 (Kd.C_below HC.out hb) hc3 (Kd.C_below HX.out hb) hd2 hq)
                                generalize indexB t c = cb at HST HC1
                                have HI2 := Aside0.mk hcols
                                have hjj : ¬ (j : Int) < (j : Int) := by omega
                                have hj0 : (0 : Int) ≤ (j : Int) := by omega
                                clear hcols
                                go_wp2_with fail
                                go_region_law ((go_simp; go_at_call 127; refine (HC1.out _ (below_drew HT2.out.below) (Kd.C_below HI2.out (below_drew (Below.refl _ _)))).mono ?_; rintro e w2 ⟨rfl, hb0⟩; have hb2 := below_of_drew' hb0))
                                all_goals
                                  have HT3 := Aside0.mk (HT2.out.step hb2)
                                  have g0 := pw_cell_below hb2 h0
                                  clear h0 h1 h2 h3 h4 k0 k1 k2 k3 k4 hb2
                                  have k3 := (Go.Proofs.YtjgomlcdmpcoaaaDoorW.PrintWords.blk_cell HT3.out.box 3).trans (rfl : _ = some (Value.slice (some ad3) t.f3.length c3))
                                  cases cb with
                                  | false =>
                                    have HF := Lib.hid (show rindsB t [] t.f3 = false by rw [HST.out, HNC.out]; rfl)
                                    go_wp2
                                    go_ret
                                    exact ⟨by rw [HI.out, HRC.out, HF.out]; rfl, HT3.out.below⟩
                                  | true =>
                                    have HST2 := Lib.hid (show rindsB t [] t.f3 = rindsB t ((t.f3.map fun c => nm c.f1).take (j + 1)) (t.f3.drop (j + 1)) by rw [HST.out, HNC.out]; rfl)
                                    go_wp2_with ((with_reducible refine gate_builtin (b := .append) (xs := #[.tmp 135, .tmp 142]) rfl ?_); at_builtin; refine Kd.R_append (Kd.int .i64) (w0 := w) w.heap.size rfl (.tmp 135) (.tmp 142) 40 3 (.int .i64 0) 8 rfl Tryd.underlying40 info3 rfl (by decide) (by omega) u4 (t.f2.map (·.f0) ++ (t.f3.map (·.f0)).take j) c.f0 [.int .i64 c.f0] (fun _ => True) (fun _ => False) rfl rfl rfl (fun _ hk => hk.elim) (fun _ _ => trivial) HT3.out.row HT3.out.below HT3.out.below.size (by omega) ?_; intro v1 w3 ho hb hg hat; have HT4 := Aside0.mk (show RSt w w3 #[.int .i64 t.f0, .string t.f1, .slice (some ad) t.f2.length c2, .slice (some ad3) t.f3.length c3, .int .i64 t.f4] v1 _ from ⟨hb, blk_grown HT3.out.box hg (Kd.R_ne HT3.out.row HT3.out.box (by decide)), ho⟩); clear ho hb hg hat)
                                    rw [← HTI.out] at HT4
                                    go_roundg (t.f3.length - (j + 1))
                                    case measure => omega
                                    case rel => exact ⟨j + 1, by omega, by omega, by go_num, HT4, ⟨HST2.out⟩⟩
                          · have hltz : ¬ (kk : Int) < (t.f3.length : Int) := by omega
                            have hRX : rindsB t [] t.f3 = true := by rw [HCI.out, List.drop_eq_nil_of_le (by omega)]; rfl
                            have hall : (t.f3.map (·.f0)).take kk = t.f3.map (·.f0) := List.take_of_length_le (by rw [List.length_map]; omega)
                            rw [hall] at HT
                            have HI2 := Lib.hid (show R = idsB t.f4 [] (t.f2.map (·.f0) ++ t.f3.map (·.f0)) by rw [HI.out, HRC.out, hRX]; rfl)
                            clear HCI hall hRX
                            have hLl : (t.f2.map (·.f0) ++ t.f3.map (·.f0)).length ≤ 50 := by rw [List.length_append, List.length_map, List.length_map]; omega
                            obtain ⟨L, hL⟩ : ∃ L, t.f2.map (·.f0) ++ t.f3.map (·.f0) = L := ⟨_, rfl⟩
                            rw [hL] at HT HI2 hLl
                            obtain ⟨A4, c4, h4⟩ := Kd.R_slice HT.out.row
                            subst h4
                            have HS := HT
                            clear HT hL
                            obtain ⟨wo, hwo⟩ : ∃ wo : World, wo = wr := ⟨_, rfl⟩
                            subst hwo
                            go_wp2_with fail
                            go_loopg [9] L.length (fun gg u9 wr => ∃ i : Nat, i ≤ L.length ∧ L.length - i ≤ gg ∧ u9 = .int .i64 i ∧ Aside0 (RSt w wr #[.int .i64 t.f0, .string t.f1, .slice (some ad) t.f2.length c2, .slice A3 t.f3.length c3, .int .i64 t.f4] (.slice A4 L.length c4) L) ∧ Aside0 (idsB t.f4 [] L = idsB t.f4 (L.take i) (L.drop i)))
                            case atStart => exact ⟨0, Nat.zero_le _, by omega, rfl, HS, ⟨rfl⟩⟩
                            case round =>
                              obtain ⟨i, hi, hgi, rfl, HT, HCI⟩ := hrel
                              clear HS
                              by_cases hlt : i < L.length
                              · have hltz : (i : Int) < (L.length : Int) := by omega
                                have hi0 : (0 : Int) ≤ (i : Int) := by omega
                                have hst : idsB t.f4 [] L = (fitsB t.f4 (L.take i) L[i] && idsB t.f4 (L.take (i + 1)) (L.drop (i + 1))) := by
                                  rw [HCI.out, List.drop_eq_getElem_cons hlt, idsB, List.take_succ_eq_append_getElem hlt]
                                unfold fitsB at hst
                                obtain ⟨-, _, g4⟩ := Kd.R_reads' HT.out.row
                                obtain ⟨ad4, eA, q1⟩ := Kd.at_int g4 (i : Int) (by omega) (by omega)
                                cases eA
                                rw [rd_nat _ _ hlt] at q1
                                simp only [Int.toNat_natCast] at q1
                                obtain ⟨x, hx⟩ : ∃ x, L[i] = x := ⟨_, rfl⟩
                                rw [hx] at q1 hst
                                have HXQ := Lib.hid hx
                                have k4 := (Go.Proofs.YtjgomlcdmpcoaaaDoorW.PrintWords.blk_cell HT.out.box 4).trans (rfl : _ = some (Value.int .i64 t.f4))
                                clear HCI hx g4
                                by_cases c1 : x < 1
                                · have HF := Lib.hid (show idsB t.f4 [] L = false by rw [hst, decide_eq_false (by omega : ¬ 1 ≤ x)]; rfl)
                                  have t1 : decide (x < 1) = true := decide_eq_true c1
                                  clear hst c1
                                  go_wp2_with fail
                                  go_quiet (fail)
                                  go_wp2
                                  go_ret
                                  exact ⟨by rw [HI2.out, HF.out] <;> rfl, (HT.out.drew _).below⟩
                                · have t1 : decide (x < 1) = false := decide_eq_false c1
                                  by_cases c2 : x < t.f4
                                  · have t2 : decide (t.f4 ≤ x) = false := decide_eq_false (by omega)
                                    rw [decide_eq_true (by omega : 1 ≤ x), decide_eq_true c2, Bool.true_and, Bool.true_and] at hst
                                    have HST := Lib.hid hst
                                    clear hst c1 c2
                                    go_wp2_with fail
                                    go_quiet (fail)
                                    have HT1 := Aside0.mk (HT.out.drew nq)
                                    clear HT q1 k4
                                    obtain ⟨wo, hwo⟩ : ∃ wo : World, wo = wr.drewN nq := ⟨_, rfl⟩
                                    rw [← hwo] at HT1 ⊢
                                    clear hwo
                                    go_wp2_with fail
                                    go_loopg [10] i (fun gg u10 wr => ∃ j : Nat, j ≤ i ∧ i - j ≤ gg ∧ u10 = .int .i64 j ∧ Aside0 (RSt w wr #[.int .i64 t.f0, .string t.f1, .slice (some ad) t.f2.length c2, .slice A3 t.f3.length c3, .int .i64 t.f4] (.slice (some ad4) L.length c4) L) ∧ Aside0 ((L.take j).contains x = false))
                                    case atStart => exact ⟨0, Nat.zero_le _, by omega, rfl, HT1, ⟨rfl⟩⟩
                                    case round =>
                                      obtain ⟨j, hj, hgj, rfl, HT2, HNC⟩ := hrel
                                      clear HT1
                                      by_cases hjl : j < i
                                      · have hjz : (j : Int) < (i : Int) := by omega
                                        have hjz2 : (j : Int) < (L.length : Int) := by omega
                                        have hj0 : (0 : Int) ≤ (j : Int) := by omega
                                        have hjL : j < L.length := by omega
                                        obtain ⟨-, _, g4⟩ := Kd.R_reads' HT2.out.row
                                        obtain ⟨ad_, eA, q1⟩ := Kd.at_int g4 (i : Int) (by omega) (by omega)
                                        cases eA
                                        obtain ⟨ad_, eA, p1⟩ := Kd.at_int g4 (j : Int) (by omega) (by omega)
                                        cases eA
                                        rw [rd_nat _ _ hlt, HXQ.out] at q1
                                        rw [rd_nat _ _ hjL] at p1
                                        simp only [Int.toNat_natCast] at p1 q1
                                        clear g4
                                        by_cases hq : L[j] = x
                                        · have HF := Lib.hid (show idsB t.f4 [] L = false by rw [HST.out, ct_yes hjL hjl hq]; rfl)
                                          rw [hq] at p1
                                          clear hq
                                          go_wp2_with fail
                                          go_quiet (fail)
                                          go_wp2
                                          go_ret
                                          exact ⟨by rw [HI2.out, HF.out] <;> rfl, (HT2.out.drew _).below⟩
                                        · have HN2 := Aside0.mk (ct_no hjL HNC.out hq)
                                          have te : (L[j] == x) = false := beq_eq_false_iff_ne.2 hq
                                          clear hq HNC
                                          go_wp2_with fail
                                          go_quiet (fail)
                                          go_wp2
                                          go_roundg (i - (j + 1))
                                          case measure => omega
                                          case rel => exact ⟨j + 1, by omega, by omega, by go_num, ⟨HT2.out.drew _⟩, HN2⟩
                                      · obtain rfl : j = i := by omega
                                        have HST2 := Lib.hid (show idsB t.f4 [] L = idsB t.f4 (L.take (j + 1)) (L.drop (j + 1)) by rw [HST.out, HNC.out]; rfl)
                                        have hjj : ¬ (j : Int) < (j : Int) := by omega
                                        go_wp2
                                        go_roundg (L.length - (j + 1))
                                        case measure => omega
                                        case rel => exact ⟨j + 1, by omega, by omega, by go_num, HT2, ⟨HST2.out⟩⟩
                                  · have t2 : decide (t.f4 ≤ x) = true := decide_eq_true (by omega)
                                    have HF := Lib.hid (show idsB t.f4 [] L = false by rw [hst, decide_eq_false c2]; simp)
                                    clear hst c1 c2
                                    go_wp2_with fail
                                    go_quiet (fail)
                                    go_wp2
                                    go_ret
                                    exact ⟨by rw [HI2.out, HF.out] <;> rfl, (HT.out.drew _).below⟩
                              · have hltz : ¬ (i : Int) < (L.length : Int) := by omega
                                have HF := Lib.hid (show idsB t.f4 [] L = true by rw [HCI.out, List.drop_eq_nil_of_le (by omega)]; rfl)
                                go_wp2
                                go_ret
                                exact ⟨by rw [HI2.out, HF.out] <;> rfl, HT.out.below⟩
end Go.Proofs.YtjgomlcdmpcoaaaDoor.H
namespace Go.Proofs.YtjgomlcdmpcoaaaDoor.H
open Go.RowKit Go.Proofs.YtjgomlcdmpcoaaaDoorW.PrintWords Go.Proofs.YtjgomlcdmpcoaaaDoorW.PrintLast Go.Proofs.YtjgomlcdmpcoaaaDoorW.PrintMore
open Go.Proofs.YtjgomlcdmpcoaaaDoor.D Go.Proofs.YtjgomlcdmpcoaaaDoor
set_option linter.unusedVariables false
set_option linter.unusedSimpArgs false
set_option maxRecDepth 100000 in
set_option maxHeartbeats 16000000 in
theorem rmay_calls (v : Int) (ts : List S70) (nx : Int) (hw : ∀ t ∈ ts, ∀ c ∈ t.f2, ValWf c.f5) (A : Option Addr) (c : Nat) (w : World) (hc : ts.length ≤ c) (g2 : k70.C w A ts.length ts) :
    Calls Tryd.prog 37 #[.agg #[.int .i64 v, .slice A ts.length c, .int .i64 nx]] w fun e w' => e = .returned (.bool (schB v ts nx)) ∧ Below w.heap.size w w' := by
  have HC := Aside0.mk g2
  have HW := Aside0.mk hw
  have big2 := g2.2.1
  have hI : schB v ts nx = (decide (0 ≤ v) && (decide (v < 1099511627776) && (decide (0 ≤ nx) && (decide (nx < 1099511627776) && (decide (ts.length ≤ 4) && tabsB nx 0 [] ts))))) := rfl
  generalize schB v ts nx = R at hI ⊢
  have HS := Aside0.mk (show Below w.heap.size w (w.alloc (.cells #[.int .i64 v, .slice A ts.length c, .int .i64 nx] 28)) ∧ (w.alloc (.cells #[.int .i64 v, .slice A ts.length c, .int .i64 nx] 28)).heap[w.heap.size]? = some (.cells #[.int .i64 v, .slice A ts.length c, .int .i64 nx] 28 (0, 0)) from ⟨below_alloc (Below.refl _ _) _, heap_alloc_new w _⟩)
  clear g2 hw
  cases q1 : decide (0 ≤ v) with
  | false =>
    have e0 : decide (v < 0) = true := decide_eq_true (by have := of_decide_eq_false q1; omega)
    rw [q1] at hI
    have HI := Lib.hid hI
    clear hI q1
    go_enter Tryd.func37, Tryd.ntmps37
    go_wp2
    go_ret
    exact ⟨by rw [HI.out]; rfl, HS.out.1⟩
  | true =>
    rw [q1, Bool.true_and] at hI
    have z0 := of_decide_eq_true q1
    have e0 : decide (v < 0) = false := decide_eq_false (by omega)
    clear q1
    cases q2 : decide (v < 1099511627776) with
    | false =>
      have e1 : decide (1099511627776 ≤ v) = true := decide_eq_true (by have := of_decide_eq_false q2; omega)
      rw [q2] at hI
      have HI := Lib.hid hI
      clear hI q2
      go_enter Tryd.func37, Tryd.ntmps37
      go_wp2
      go_ret
      exact ⟨by rw [HI.out]; rfl, HS.out.1⟩
    | true =>
      rw [q2, Bool.true_and] at hI
      have z1 := of_decide_eq_true q2
      have e1 : decide (1099511627776 ≤ v) = false := decide_eq_false (by omega)
      clear q2
      cases q3 : decide (0 ≤ nx) with
      | false =>
        have e2 : decide (nx < 0) = true := decide_eq_true (by have := of_decide_eq_false q3; omega)
        rw [q3] at hI
        have HI := Lib.hid hI
        clear hI q3
        go_enter Tryd.func37, Tryd.ntmps37
        go_wp2
        go_ret
        exact ⟨by rw [HI.out]; rfl, HS.out.1⟩
      | true =>
        rw [q3, Bool.true_and] at hI
        have z2 := of_decide_eq_true q3
        have e2 : decide (nx < 0) = false := decide_eq_false (by omega)
        clear q3
        cases q4 : decide (nx < 1099511627776) with
        | false =>
          have e3 : decide (1099511627776 ≤ nx) = true := decide_eq_true (by have := of_decide_eq_false q4; omega)
          rw [q4] at hI
          have HI := Lib.hid hI
          clear hI q4
          go_enter Tryd.func37, Tryd.ntmps37
          go_wp2
          go_ret
          exact ⟨by rw [HI.out]; rfl, HS.out.1⟩
        | true =>
          rw [q4, Bool.true_and] at hI
          have z3 := of_decide_eq_true q4
          have e3 : decide (1099511627776 ≤ nx) = false := decide_eq_false (by omega)
          clear q4
          cases q5 : decide (ts.length ≤ 4) with
          | false =>
            have e4 : decide (4 < (ts.length : Int)) = true := decide_eq_true (by have := of_decide_eq_false q5; omega)
            rw [q5] at hI
            have HI := Lib.hid hI
            clear hI q5
            go_enter Tryd.func37, Tryd.ntmps37
            go_wp2
            go_ret
            exact ⟨by rw [HI.out]; rfl, HS.out.1⟩
          | true =>
            rw [q5, Bool.true_and] at hI
            have z4 := of_decide_eq_true q5
            have e4 : decide (4 < (ts.length : Int)) = false := decide_eq_false (by omega)
            clear q5
            have HI := Lib.hid hI
            clear hI
            go_enter Tryd.func37, Tryd.ntmps37
            go_wp2_with fail
            go_loopg [3, 4] ts.length (fun gg u3 u4 wr => ∃ (kk : Nat) (la : Int), kk ≤ ts.length ∧ ts.length - kk ≤ gg ∧ u3 = .int .i64 la ∧ u4 = .int .i64 kk ∧ Aside0 (Below w.heap.size w wr ∧ wr.heap[w.heap.size]? = some (.cells #[.int .i64 v, .slice A ts.length c, .int .i64 nx] 28 (0, 0))) ∧ Aside0 (tabsB nx 0 [] ts = tabsB nx la ((ts.map fun t => nm t.f1).take kk) (ts.drop kk)))
            case atStart => exact ⟨0, 0, Nat.zero_le _, by omega, rfl, rfl, HS, ⟨rfl⟩⟩
            case round =>
              obtain ⟨kk, la, hkk, hgg, rfl, rfl, HT, HCI⟩ := hrel
              clear HS
              have k1 := (Go.Proofs.YtjgomlcdmpcoaaaDoorW.PrintWords.blk_cell HT.out.2 1).trans (rfl : _ = some (Value.slice A ts.length c))
              by_cases hlt : kk < ts.length
              · have hltz : (kk : Int) < (ts.length : Int) := by omega
                have hk0 : (0 : Int) ≤ (kk : Int) := by omega
                have hnl : kk < (ts.map fun t => nm t.f1).length := by rw [List.length_map]; exact hlt
                have hd : ts.drop kk = ts[kk] :: ts.drop (kk + 1) := List.drop_eq_getElem_cons hlt
                have hst : tabsB nx 0 [] ts = (decide (la < ts[kk].f0) && (decide (ts[kk].f0 < nx) && (!((ts.map fun t => nm t.f1).take kk).contains (nm ts[kk].f1) && (tableB ts[kk] && tabsB nx ts[kk].f0 ((ts.map fun t => nm t.f1).take (kk + 1)) (ts.drop (kk + 1)))))) := by
                  rw [HCI.out, hd, tabsB, List.take_succ_eq_append_getElem hnl, List.getElem_map]
                obtain ⟨ad, A2, c2, A3, c3, eA, h0, h1, h2, h3, h4, hd2, hcols, hd3, hinds⟩ := at_T70 (Kd.C_below HC.out HT.out.1) (kk : Int) (by omega) (by omega)
                cases eA
                have hwt := HW.out _ (List.getElem_mem hlt)
                rw [rd70 _ _ hlt] at h0 h1 h2 h3 h4 hd2 hcols hd3 hinds
                simp only [Int.toNat_natCast] at h0 h1 h2 h3 h4
                obtain ⟨t, ht⟩ : ∃ t, ts[kk] = t := ⟨_, rfl⟩
                rw [ht] at hst hwt h0 h1 h2 h3 h4 hd2 hcols hd3 hinds
                have hb0 := below_alloc (Below.refl _ wr) (.cells #[.int .i64 t.f0, .string t.f1, .slice A2 t.f2.length c2, .slice A3 t.f3.length c3, .int .i64 t.f4] 70)
                have hBa := below_then HT.out.1 HT.out.1.size hb0
                have hxa := blk_below HT.out.2 hb0
                have hya := heap_alloc_new wr (.cells #[.int .i64 t.f0, .string t.f1, .slice A2 t.f2.length c2, .slice A3 t.f3.length c3, .int .i64 t.f4] 70)
                have HTL := Lib.hid (rtable_may t hwt A2 c2 A3 c3 (wr.alloc (.cells #[.int .i64 t.f0, .string t.f1, .slice A2 t.f2.length c2, .slice A3 t.f3.length c3, .int .i64 t.f4] 70)) hd2 (Kd.C_below hcols hb0) hd3 (Kd.C_below hinds hb0))
                generalize tableB t = tb at hst HTL
                have HBa := Aside0.mk hBa
                have HXa := Aside0.mk hxa
                have HYa := Aside0.mk hya
                have k2 := (Go.Proofs.YtjgomlcdmpcoaaaDoorW.PrintWords.blk_cell HT.out.2 2).trans (rfl : _ = some (Value.int .i64 nx))
                have hsz := HT.out.1.size
                have hlw : w.heap.size < wr.heap.size := lt_of_block HT.out.2
                have hlw2 : ¬ w.heap.size = wr.heap.size := by omega
                have hlw3 : ¬ wr.heap.size = w.heap.size := by omega
                clear HCI hd hnl hcols hinds hd2 hd3 hwt hb0 hBa hxa hya ht
                by_cases c1 : la < t.f0
                · rw [decide_eq_true c1, Bool.true_and] at hst
                  have b1 : decide (t.f0 ≤ la) = false := decide_eq_false (by omega)
                  by_cases c2' : t.f0 < nx
                  · rw [decide_eq_true c2', Bool.true_and] at hst
                    have b2 : decide (nx ≤ t.f0) = false := decide_eq_false (by omega)
                    clear c1 c2'
                    have HST := Lib.hid hst
                    clear hst
                    go_wp2_with fail
                    refine HTL.out.mono ?_
                    rintro e w2 ⟨rfl, hb2⟩
                    have HB2 := Aside0.mk (below_then HBa.out HBa.out.size hb2)
                    have HX2 := Aside0.mk (blk_below HXa.out hb2)
                    have HY2 := Aside0.mk (blk_below HYa.out hb2)
                    have y0 := (Go.Proofs.YtjgomlcdmpcoaaaDoorW.PrintWords.blk_cell HY2.out 0).trans (rfl : _ = some (Value.int .i64 t.f0))
                    clear h0 h1 h2 h3 h4 k1 k2 b1 b2 hb2 HTL HBa HXa HYa
                    cases tb with
                    | false =>
                      have HF := Lib.hid (show tabsB nx 0 [] ts = false by rw [HST.out]; simp)
                      go_wp2
                      go_ret
                      exact ⟨by rw [HI.out, HF.out] <;> rfl, HB2.out⟩
                    | true =>
                      rw [show ∀ a b : Bool, (a && (true && b)) = (a && b) from fun _ _ => rfl] at HST
                      go_wp2_with fail
                      go_loopg [6] kk (fun gg u6 wq => ∃ j : Nat, j ≤ kk ∧ kk - j ≤ gg ∧ u6 = .int .i64 j ∧ Aside0 (Below w.heap.size w wq ∧ wq.heap[w.heap.size]? = some (.cells #[.int .i64 v, .slice (some ad) ts.length c, .int .i64 nx] 28 (0, 0)) ∧ wq.heap[wr.heap.size]? = some (.cells #[.int .i64 t.f0, .string t.f1, .slice A2 t.f2.length c2, .slice A3 t.f3.length c3, .int .i64 t.f4] 70 (0, 0))) ∧ Aside0 (((ts.map fun t => nm t.f1).take j).contains (nm t.f1) = false))
                      case atStart => exact ⟨0, Nat.zero_le _, by omega, rfl, ⟨HB2.out, HX2.out, HY2.out⟩, ⟨rfl⟩⟩
                      case round =>
                        obtain ⟨j, hj, hgj, rfl, HT2, HNC⟩ := hrel
                        clear HB2 HX2 HY2 y0
                        by_cases hjl : j < kk
                        · have hjz : (j : Int) < (kk : Int) := by omega
                          have hjz2 : (j : Int) < (ts.length : Int) := by omega
                          have hj0 : (0 : Int) ≤ (j : Int) := by omega
                          have hnj : j < (ts.map fun t => nm t.f1).length := by rw [List.length_map]; omega
                          have hjL : j < ts.length := by omega
                          obtain ⟨ad_, _, _, _, _, eA, -, p1, -⟩ := at_T70 (Kd.C_below HC.out HT2.out.1) (j : Int) (by omega) (by omega)
                          cases eA
                          rw [rd70 _ _ hjL] at p1
                          simp only [Int.toNat_natCast] at p1
                          have hgj2 : (ts.map fun t => nm t.f1)[j] = nm ts[j].f1 := List.getElem_map ..
                          generalize ts[j].f1 = nj at p1 hgj2
                          have y1 := (Go.Proofs.YtjgomlcdmpcoaaaDoorW.PrintWords.blk_cell HT2.out.2.2 1).trans (rfl : _ = some (Value.string t.f1))
                          have x1 := (Go.Proofs.YtjgomlcdmpcoaaaDoorW.PrintWords.blk_cell HT2.out.2.1 1).trans (rfl : _ = some (Value.slice (some ad) ts.length c))
                          by_cases hq : nm nj = nm t.f1
                          · have HF := Lib.hid (show tabsB nx 0 [] ts = false by rw [HST.out, ct_yes hnj hjl (hgj2.trans hq)]; rfl)
                            have te : (nj.toList == t.f1.toList) = true := by rw [ByteArray.toList_eq, ByteArray.toList_eq]; exact beq_iff_eq.2 hq
                            clear hq hgj2 hnj
                            go_wp2_with fail
                            go_quiet (fail)
                            go_wp2
                            go_ret
                            exact ⟨by rw [HI.out, HF.out] <;> rfl, pw_below_drewN HT2.out.1 _⟩
                          · have HN2 := Aside0.mk (ct_no hnj HNC.out (by rw [hgj2]; exact hq))
                            have te : (nj.toList == t.f1.toList) = false := by rw [ByteArray.toList_eq, ByteArray.toList_eq]; exact beq_eq_false_iff_ne.2 hq
                            clear hq hgj2 hnj HNC
                            go_wp2_with fail
                            go_quiet (fail)
                            go_wp2
                            go_roundg (kk - (j + 1))
                            case measure => omega
                            case rel => exact ⟨j + 1, by omega, by omega, by go_num, ⟨pw_below_drewN HT2.out.1 _, HT2.out.2⟩, HN2⟩
                        · obtain rfl : j = kk := by omega
                          have HST2 := Lib.hid (show tabsB nx 0 [] ts = tabsB nx t.f0 ((ts.map fun t => nm t.f1).take (j + 1)) (ts.drop (j + 1)) by rw [HST.out, HNC.out]; rfl)
                          have hjj : ¬ (j : Int) < (j : Int) := by omega
                          go_wp2
                          go_roundg (ts.length - (j + 1))
                          case measure => omega
                          case rel => exact ⟨j + 1, t.f0, by omega, by omega, rfl, by go_num, ⟨HT2.out.1, HT2.out.2.1⟩, ⟨HST2.out⟩⟩
                  · have HF := Lib.hid (show tabsB nx 0 [] ts = false by rw [hst, decide_eq_false c2']; rfl)
                    have b2 : decide (nx ≤ t.f0) = true := decide_eq_true (by omega)
                    clear hst c1 c2'
                    go_wp2
                    go_ret
                    exact ⟨by rw [HI.out, HF.out] <;> rfl, HBa.out⟩
                · have HF := Lib.hid (show tabsB nx 0 [] ts = false by rw [hst, decide_eq_false c1]; rfl)
                  have b1 : decide (t.f0 ≤ la) = true := decide_eq_true (by omega)
                  clear hst c1
                  go_wp2
                  go_ret
                  exact ⟨by rw [HI.out, HF.out] <;> rfl, HBa.out⟩
              · have hltz : ¬ (kk : Int) < (ts.length : Int) := by omega
                have HF := Lib.hid (show tabsB nx 0 [] ts = true by rw [HCI.out, List.drop_eq_nil_of_le (by omega)]; rfl)
                go_wp2
                go_ret
                exact ⟨by rw [HI.out, HF.out] <;> rfl, HT.out.1⟩
end Go.Proofs.YtjgomlcdmpcoaaaDoor.H
namespace Go.Proofs.YtjgomlcdmpcoaaaDoor.D
open Go.RowKit Go.Proofs.YtjgomlcdmpcoaaaDoorW.PrintWords Go.Proofs.YtjgomlcdmpcoaaaDoorW.PrintLast Go.Proofs.YtjgomlcdmpcoaaaDoorW.PrintMore
set_option linter.unusedVariables false
def falseworkref6_May.f (_ : Nat) (v : Int) (ts : List S70) (nx : Int) : Option Bool := if (∀ t ∈ ts, ∀ c ∈ t.f2, 0 ≤ c.f5.f2 ∧ c.f5.f2 < 18446744073709551616) then some (H.schB v ts nx) else none
theorem falseworkref6_May.mono : ∀ a0 a1 a2 k, LeO (falseworkref6_May.f k a0 a1 a2) (falseworkref6_May.f (k + 1) a0 a1 a2) := fun _ _ _ _ => LeO.refl _
theorem falseworkref6_May.calls (k : Nat) (a0_0 : Int) (A0_1 : Option Addr) (c0_1 : Nat) (l0_1 : List (S70)) (a0_2 : Int) (r : Bool) (w : World) (hr0_1 : Kd.C k70 w A0_1 l0_1.length l0_1) (hc0_1 : l0_1.length ≤ c0_1) (h : falseworkref6_May.f k a0_0 l0_1 a0_2 = some r) :
  Calls Tryd.prog 37 #[.agg #[.int .i64 a0_0, .slice A0_1 l0_1.length c0_1, .int .i64 a0_2]] w fun e w' => e = .returned (.bool r) ∧ Below w.heap.size w w' := by
 unfold falseworkref6_May.f at h
 split at h
 case isTrue hw =>
  injection h with h
  subst h; exact H.rmay_calls a0_0 l0_1 a0_2 hw A0_1 c0_1 w hc0_1 hr0_1
 case isFalse => cases h
end Go.Proofs.YtjgomlcdmpcoaaaDoor.D
namespace Go.Proofs.YtjgomlcdmpcoaaaDoor.H
set_option linter.unusedVariables false
open Go.Proofs.YtjgomlcdmpcoaaaDoor.D
theorem ref_may (v : Int) (ts : List S70) (nx : Int) (hw : ∀ t ∈ ts, ∀ c ∈ t.f2, ValWf c.f5) (k : Nat) (hk : 8500 < k) : falseworkref6_May.f k v ts nx = some (schB v ts nx) := by
 unfold falseworkref6_May.f
 exact if_pos hw
end Go.Proofs.YtjgomlcdmpcoaaaDoor.H
namespace Go.Proofs.YtjgomlcdmpcoaaaDoor.D
open Go.RowKit Go.Proofs.YtjgomlcdmpcoaaaDoorW.PrintWords Go.Proofs.YtjgomlcdmpcoaaaDoorW.PrintLast Go.Proofs.YtjgomlcdmpcoaaaDoorW.PrintMore
attribute [local go_sem] max2_int min2_int max_two min_two max_three min_three max_four min_four
set_option linter.unusedVariables false
set_option linter.unusedSimpArgs false
def falseworkref18_ByID.l0 : Nat → Int → Int → Int → List (S70) → Int → Option (Int)
 | 0, _, _, _, _, _ => none
 | k + 1, x1, x5, x276000, x276001, x276002 => if x5 < (x276001.length : Int) then (if 0 ≤ x5 then (if ((rd_T70 x276001 x5).f0) = x1 then (some x5) else (falseworkref18_ByID.l0 k x1 (wrap64 (x5 + 1)) x276000 x276001 x276002)) else (none)) else (some (-1))
def falseworkref18_ByID.f (k : Nat) (a0_0 : Int) (l0_1 : List (S70)) (a0_2 : Int) (a1 : Int) : Option (Int) := falseworkref18_ByID.l0 k a1 0 a0_0 l0_1 a0_2
theorem falseworkref18_ByID.mono_l : ∀ k, (∀ y0 y1 y2 y3 y4, LeO (falseworkref18_ByID.l0 k y0 y1 y2 y3 y4) (falseworkref18_ByID.l0 (k + 1) y0 y1 y2 y3 y4))
 | 0 => fun _ _ _ _ _ r h => by simp [falseworkref18_ByID.l0] at h
 | k + 1 => by
  have ih0 := falseworkref18_ByID.mono_l k
  ·intro y0 y1 y2 y3 y4
   unfold falseworkref18_ByID.l0
   repeat' first
   | (with_reducible exact ih0 _ _ _ _ _)
   | (with_reducible exact LeO.refl _)
   | (with_reducible exact LeO.none _)
   | (with_reducible refine LeO.ite ?_ ?_)
   | (with_reducible refine LeO.bind ?_ (fun _ => ?_))
   | exact ih0 _ _ _ _ _
   | exact LeO.none _
   | refine LeO.ite ?_ ?_
   | refine LeO.bind ?_ (fun _ => ?_)
theorem falseworkref18_ByID.mono : ∀ a0 a1 a2 a3 k, LeO (falseworkref18_ByID.f k a0 a1 a2 a3) (falseworkref18_ByID.f (k + 1) a0 a1 a2 a3) := by
 intro a0 a1 a2 a3 k
 have ih0 := falseworkref18_ByID.mono_l k
 unfold falseworkref18_ByID.f
 repeat' first
   | (with_reducible exact ih0 _ _ _ _ _)
   | (with_reducible exact LeO.refl _)
   | (with_reducible exact LeO.none _)
   | (with_reducible refine LeO.ite ?_ ?_)
   | (with_reducible refine LeO.bind ?_ (fun _ => ?_))
   | exact ih0 _ _ _ _ _
   | exact LeO.none _
   | refine LeO.ite ?_ ?_
   | refine LeO.bind ?_ (fun _ => ?_)
set_option maxHeartbeats 8000000 in
set_option maxRecDepth 100000 in
theorem falseworkref18_ByID.calls (k : Nat) (a0_0 : Int) (A0_1 : Option Addr) (c0_1 : Nat) (l0_1 : List (S70)) (a0_2 : Int) (a1 : Int) (r : Int) (w : World) (hr0_1 : Kd.C k70 w A0_1 l0_1.length l0_1) (hc0_1 : l0_1.length ≤ c0_1) (h : falseworkref18_ByID.f k a0_0 l0_1 a0_2 a1 = some r) :
  Calls Tryd.prog 65 #[.agg #[.int .i64 a0_0, .slice A0_1 l0_1.length c0_1, .int .i64 a0_2], .int .i64 a1] w fun e w' => e = .returned (.int .i64 r) ∧ Below w.heap.size w w' := by
 have hu28 := Tryd.underlying28
 have HR0_1 := Aside0.mk hr0_1; have HC0_1 := Aside0.mk hc0_1; clear hr0_1 hc0_1; have HB := Aside0.mk (Below.refl w.heap.size w)
 have H : (falseworkref18_ByID.l0 k a1 0 a0_0 l0_1 a0_2) = some r := h
 clear h; have H' := Aside0.mk H; clear H; go_enter Tryd.func65, Tryd.ntmps65
 go_wp2_with (first | ((with_reducible refine gate_dst (N := 2) rfl ?_); refine box_event ?hg (N := 2) ?hd (cs := #[.int .i64 a0_0, .slice A0_1 l0_1.length c0_1, .int .i64 a0_2]) (t := 28) ?hr ?_; (case hd => rfl); (case hg => rfl); (case hr => first | (go_simp; done) | (go_simp; rfl)); intro gb275 hg w3 hbox hb; have n0_ := Aside0.mk (below_step (by repeat (first | (with_reducible first | exact HB.out | apply below_alloc | apply pw_below_drewN | apply below_drew1) | exact HB.out)) hb); have n1_ := Aside0.mk (hbox); have n2_ := Aside0.mk ((by rw [hg]; exact (below_size (by repeat (first | (with_reducible first | exact HB.out | apply below_alloc | apply pw_below_drewN | apply below_drew1) | exact HB.out))) : w.heap.size ≤ gb275)); have n3_ := Aside0.mk ((by rw [hg]; exact (below_size (by repeat (first | (with_reducible first | exact HB.out | apply below_alloc | apply pw_below_drewN | apply below_drew1) | exact HB.out))) : w.heap.size ≤ gb275)); clear HB; have HB := n0_; have BK275 := n1_; have GW275 := n2_; have GE275 := n3_; clear n0_ n1_ n2_ n3_; clear hb hbox hg))
 go_loopg [5] k (fun kq v5 w' => ∃ (x5_1 : Int), v5 = .int .i64 x5_1 ∧ Aside0 (falseworkref18_ByID.l0 kq a1 x5_1 a0_0 l0_1 a0_2 = some r) ∧ Aside0 (kq ≤ k) ∧ Aside0 (w'.heap[gb275]? = some (.cells #[.int .i64 a0_0, (.slice A0_1 l0_1.length c0_1), .int .i64 a0_2] 28 (0, 0))) ∧ Aside0 (Below w.heap.size w w'))
 case atStart => exact ⟨(0), (by first | rfl | (simp; done) | (simp [*]; done)), H', ⟨Nat.le_refl _⟩, ⟨by (with_reducible repeat (first | refine blk_drewN ?_ _ | refine blk_drew ?_ | refine blk_alloc ?_ _)); exact BK275.out⟩, ⟨by repeat (first | (with_reducible first | exact HB.out | apply below_alloc | apply pw_below_drewN | apply below_drew1 | refine below_set ?_ GE275.out) | exact HB.out)⟩⟩
 case round =>
  clear H'; (try clear p2); obtain ⟨x5_1, rfl, HA, HK1, BK275, HB⟩ := hrel
  cases gk with
  | zero => exact absurd HA.out (by simp [falseworkref18_ByID.l0])
  | succ k1 =>
   have H := HA.out; clear HA; simp only [falseworkref18_ByID.l0] at H
   by_cases c4 : x5_1 < (l0_1.length : Int)
   ·rw [if_pos c4] at H
    have c4b0 : decide (x5_1 < (l0_1.length : Int)) = true := decide_eq_true c4
    clear c4; by_cases c5 : 0 ≤ x5_1
    ·rw [if_pos c5] at H
     have c5b0 : decide (0 ≤ x5_1) = true := decide_eq_true c5
     clear c5; by_cases c6 : ((rd_T70 l0_1 x5_1).f0) = a1
     ·rw [if_pos c6] at H
      have c6b0 : (((rd_T70 l0_1 x5_1).f0) == a1) = true := beq_iff_eq.mpr c6
      have c6b1 : (((rd_T70 l0_1 x5_1).f0) != a1) = false := bne_eq_false_iff_eq.mpr c6
      clear c6; obtain rfl := Option.some.inj H; have hcz7_0 : wr.cell? ⟨gb275, 0, none⟩ = some (.int .i64 a0_0) := (Go.Proofs.YtjgomlcdmpcoaaaDoorW.PrintWords.blk_cell BK275.out 0).trans rfl
      have hcz7_1 : wr.cell? ⟨gb275, 1, none⟩ = some (.slice A0_1 l0_1.length c0_1) := (Go.Proofs.YtjgomlcdmpcoaaaDoorW.PrintWords.blk_cell BK275.out 1).trans rfl
      have hcz7_2 : wr.cell? ⟨gb275, 2, none⟩ = some (.int .i64 a0_2) := (Go.Proofs.YtjgomlcdmpcoaaaDoorW.PrintWords.blk_cell BK275.out 2).trans rfl
      have hfz7_0 := blk_frozen BK275.out 0
      have hfz7_1 := blk_frozen BK275.out 1
      have hfz7_2 := blk_frozen BK275.out 2
      have p276 : 0 ≤ (x5_1 : Int) := of_decide_eq_true (by first | (with_reducible assumption) | assumption)
      have q276 : x5_1 < (l0_1.length : Int) := of_decide_eq_true (by first | (with_reducible assumption) | assumption)
      obtain ⟨ad276, A276_2, c276_2, A276_3, c276_3, e276, hx276_0, hx276_1, hx276_2, hx276_3, hx276_4, hl276_2, hi276_2, hl276_3, hi276_3⟩ := at_T70 HR0_1.out x5_1 p276 q276
      cases e276
      replace hx276_0 := (HB.out.cell (World.block_lt_of_cell? w _ hx276_0)).trans hx276_0
      replace hx276_1 := (HB.out.cell (World.block_lt_of_cell? w _ hx276_1)).trans hx276_1
      replace hx276_2 := (HB.out.cell (World.block_lt_of_cell? w _ hx276_2)).trans hx276_2
      replace hx276_3 := (HB.out.cell (World.block_lt_of_cell? w _ hx276_3)).trans hx276_3
      replace hx276_4 := (HB.out.cell (World.block_lt_of_cell? w _ hx276_4)).trans hx276_4
      have HR276_2 := Aside0.mk hi276_2; have HC276_2 := Aside0.mk hl276_2; clear hi276_2 hl276_2; have HR276_3 := Aside0.mk hi276_3; have HC276_3 := Aside0.mk hl276_3; clear hi276_3 hl276_3; replace p276 := eq_true p276
      replace q276 := eq_true q276
      go_wp2; go_ret; exact ⟨by first | rfl | (simp [errW_none, errW_some] <;> rfl) | (simp [*, errW_none, errW_some] <;> rfl), by repeat (first | (with_reducible first | exact HB.out | apply below_alloc | apply pw_below_drewN | apply below_drew1 | refine below_set ?_ GE275.out) | exact HB.out)⟩
     ·rw [if_neg c6] at H
      have c6b0 : (((rd_T70 l0_1 x5_1).f0) == a1) = false := beq_eq_false_iff_ne.mpr c6
      have c6b1 : (((rd_T70 l0_1 x5_1).f0) != a1) = true := bne_iff_ne.mpr c6
      have H' := Aside0.mk H; clear H; have hcz8_0 : wr.cell? ⟨gb275, 0, none⟩ = some (.int .i64 a0_0) := (Go.Proofs.YtjgomlcdmpcoaaaDoorW.PrintWords.blk_cell BK275.out 0).trans rfl
      have hcz8_1 : wr.cell? ⟨gb275, 1, none⟩ = some (.slice A0_1 l0_1.length c0_1) := (Go.Proofs.YtjgomlcdmpcoaaaDoorW.PrintWords.blk_cell BK275.out 1).trans rfl
      have hcz8_2 : wr.cell? ⟨gb275, 2, none⟩ = some (.int .i64 a0_2) := (Go.Proofs.YtjgomlcdmpcoaaaDoorW.PrintWords.blk_cell BK275.out 2).trans rfl
      have hfz8_0 := blk_frozen BK275.out 0
      have hfz8_1 := blk_frozen BK275.out 1
      have hfz8_2 := blk_frozen BK275.out 2
      have p276 : 0 ≤ (x5_1 : Int) := of_decide_eq_true (by first | (with_reducible assumption) | assumption)
      have q276 : x5_1 < (l0_1.length : Int) := of_decide_eq_true (by first | (with_reducible assumption) | assumption)
      obtain ⟨ad276, A276_2, c276_2, A276_3, c276_3, e276, hx276_0, hx276_1, hx276_2, hx276_3, hx276_4, hl276_2, hi276_2, hl276_3, hi276_3⟩ := at_T70 HR0_1.out x5_1 p276 q276
      cases e276
      replace hx276_0 := (HB.out.cell (World.block_lt_of_cell? w _ hx276_0)).trans hx276_0
      replace hx276_1 := (HB.out.cell (World.block_lt_of_cell? w _ hx276_1)).trans hx276_1
      replace hx276_2 := (HB.out.cell (World.block_lt_of_cell? w _ hx276_2)).trans hx276_2
      replace hx276_3 := (HB.out.cell (World.block_lt_of_cell? w _ hx276_3)).trans hx276_3
      replace hx276_4 := (HB.out.cell (World.block_lt_of_cell? w _ hx276_4)).trans hx276_4
      have HR276_2 := Aside0.mk hi276_2; have HC276_2 := Aside0.mk hl276_2; clear hi276_2 hl276_2; have HR276_3 := Aside0.mk hi276_3; have HC276_3 := Aside0.mk hl276_3; clear hi276_3 hl276_3; replace p276 := eq_true p276
      replace q276 := eq_true q276
      go_wp2; go_roundg k1
      case measure => have := HK1.out; omega
      case rel => exact ⟨(wrap64 (x5_1 + 1)), (by first | rfl | (simp; done) | (simp [*]; done)), H', ⟨by have := HK1.out; omega⟩, ⟨by (with_reducible repeat (first | refine blk_drewN ?_ _ | refine blk_drew ?_ | refine blk_alloc ?_ _)); exact BK275.out⟩, ⟨by repeat (first | (with_reducible first | exact HB.out | apply below_alloc | apply pw_below_drewN | apply below_drew1 | refine below_set ?_ GE275.out) | exact HB.out)⟩⟩
    ·rw [if_neg c5] at H
     exact absurd H (by simp)
   ·rw [if_neg c4] at H
    have c4b0 : decide (x5_1 < (l0_1.length : Int)) = false := decide_eq_false c4
    clear c4; obtain rfl := Option.some.inj H; have hcz9_0 : wr.cell? ⟨gb275, 0, none⟩ = some (.int .i64 a0_0) := (Go.Proofs.YtjgomlcdmpcoaaaDoorW.PrintWords.blk_cell BK275.out 0).trans rfl
    have hcz9_1 : wr.cell? ⟨gb275, 1, none⟩ = some (.slice A0_1 l0_1.length c0_1) := (Go.Proofs.YtjgomlcdmpcoaaaDoorW.PrintWords.blk_cell BK275.out 1).trans rfl
    have hcz9_2 : wr.cell? ⟨gb275, 2, none⟩ = some (.int .i64 a0_2) := (Go.Proofs.YtjgomlcdmpcoaaaDoorW.PrintWords.blk_cell BK275.out 2).trans rfl
    have hfz9_0 := blk_frozen BK275.out 0
    have hfz9_1 := blk_frozen BK275.out 1
    have hfz9_2 := blk_frozen BK275.out 2
    go_wp2; go_ret; exact ⟨by first | rfl | (simp [errW_none, errW_some] <;> rfl) | (simp [*, errW_none, errW_some] <;> rfl), by repeat (first | (with_reducible first | exact HB.out | apply below_alloc | apply pw_below_drewN | apply below_drew1 | refine below_set ?_ GE275.out) | exact HB.out)⟩
end Go.Proofs.YtjgomlcdmpcoaaaDoor.D
namespace Go.Proofs.YtjgomlcdmpcoaaaDoor.D
open Go.RowKit Go.Proofs.YtjgomlcdmpcoaaaDoorW.PrintWords Go.Proofs.YtjgomlcdmpcoaaaDoorW.PrintLast Go.Proofs.YtjgomlcdmpcoaaaDoorW.PrintMore
attribute [local go_sem] max2_int min2_int max_two min_two max_three min_three max_four min_four
set_option linter.unusedVariables false
set_option linter.unusedSimpArgs false
def falseworkref18_index.l0 : Nat → Int → Int → Int → ByteArray → List (S75) → List (S98) → Int → Option (Int)
 | 0, _, _, _, _, _, _, _ => none
 | k + 1, x1, x5, x278000, x278001, x278002, x278003, x278004 => if x5 < (x278003.length : Int) then (if 0 ≤ x5 then (if ((rd_T98 x278003 x5).f0) = x1 then (some x5) else (falseworkref18_index.l0 k x1 (wrap64 (x5 + 1)) x278000 x278001 x278002 x278003 x278004)) else (none)) else (some (-1))
def falseworkref18_index.f (k : Nat) (a0_0 : Int) (a0_1 : ByteArray) (l0_2 : List (S75)) (l0_3 : List (S98)) (a0_4 : Int) (a1 : Int) : Option (Int) := falseworkref18_index.l0 k a1 0 a0_0 a0_1 l0_2 l0_3 a0_4
theorem falseworkref18_index.mono_l : ∀ k, (∀ y0 y1 y2 y3 y4 y5 y6, LeO (falseworkref18_index.l0 k y0 y1 y2 y3 y4 y5 y6) (falseworkref18_index.l0 (k + 1) y0 y1 y2 y3 y4 y5 y6))
 | 0 => fun _ _ _ _ _ _ _ r h => by simp [falseworkref18_index.l0] at h
 | k + 1 => by
  have ih0 := falseworkref18_index.mono_l k
  ·intro y0 y1 y2 y3 y4 y5 y6
   unfold falseworkref18_index.l0
   repeat' first
   | (with_reducible exact ih0 _ _ _ _ _ _ _)
   | (with_reducible exact LeO.refl _)
   | (with_reducible exact LeO.none _)
   | (with_reducible refine LeO.ite ?_ ?_)
   | (with_reducible refine LeO.bind ?_ (fun _ => ?_))
   | exact ih0 _ _ _ _ _ _ _
   | exact LeO.none _
   | refine LeO.ite ?_ ?_
   | refine LeO.bind ?_ (fun _ => ?_)
theorem falseworkref18_index.mono : ∀ a0 a1 a2 a3 a4 a5 k, LeO (falseworkref18_index.f k a0 a1 a2 a3 a4 a5) (falseworkref18_index.f (k + 1) a0 a1 a2 a3 a4 a5) := by
 intro a0 a1 a2 a3 a4 a5 k
 have ih0 := falseworkref18_index.mono_l k
 unfold falseworkref18_index.f
 repeat' first
   | (with_reducible exact ih0 _ _ _ _ _ _ _)
   | (with_reducible exact LeO.refl _)
   | (with_reducible exact LeO.none _)
   | (with_reducible refine LeO.ite ?_ ?_)
   | (with_reducible refine LeO.bind ?_ (fun _ => ?_))
   | exact ih0 _ _ _ _ _ _ _
   | exact LeO.none _
   | refine LeO.ite ?_ ?_
   | refine LeO.bind ?_ (fun _ => ?_)
set_option maxHeartbeats 8000000 in
set_option maxRecDepth 100000 in
theorem falseworkref18_index.calls (k : Nat) (a0_0 : Int) (a0_1 : ByteArray) (A0_2 : Option Addr) (c0_2 : Nat) (l0_2 : List (S75)) (A0_3 : Option Addr) (c0_3 : Nat) (l0_3 : List (S98)) (a0_4 : Int) (a1 : Int) (r : Int) (w : World) (hr0_2 : Kd.C k75 w A0_2 l0_2.length l0_2) (hc0_2 : l0_2.length ≤ c0_2) (hr0_3 : Kd.C k98 w A0_3 l0_3.length l0_3) (hc0_3 : l0_3.length ≤ c0_3) (h : falseworkref18_index.f k a0_0 a0_1 l0_2 l0_3 a0_4 a1 = some r) :
  Calls Tryd.prog 66 #[.agg #[.int .i64 a0_0, .string a0_1, .slice A0_2 l0_2.length c0_2, .slice A0_3 l0_3.length c0_3, .int .i64 a0_4], .int .i64 a1] w fun e w' => e = .returned (.int .i64 r) ∧ Below w.heap.size w w' := by
 have hu70 := Tryd.underlying70
 have HR0_2 := Aside0.mk hr0_2; have HC0_2 := Aside0.mk hc0_2; clear hr0_2 hc0_2; have HR0_3 := Aside0.mk hr0_3; have HC0_3 := Aside0.mk hc0_3; clear hr0_3 hc0_3; have HB := Aside0.mk (Below.refl w.heap.size w)
 have H : (falseworkref18_index.l0 k a1 0 a0_0 a0_1 l0_2 l0_3 a0_4) = some r := h
 clear h; have H' := Aside0.mk H; clear H; go_enter Tryd.func66, Tryd.ntmps66
 go_wp2_with (first | ((with_reducible refine gate_dst (N := 2) rfl ?_); refine box_event ?hg (N := 2) ?hd (cs := #[.int .i64 a0_0, .string a0_1, .slice A0_2 l0_2.length c0_2, .slice A0_3 l0_3.length c0_3, .int .i64 a0_4]) (t := 70) ?hr ?_; (case hd => rfl); (case hg => rfl); (case hr => first | (go_simp; done) | (go_simp; rfl)); intro gb277 hg w3 hbox hb; have n0_ := Aside0.mk (below_step (by repeat (first | (with_reducible first | exact HB.out | apply below_alloc | apply pw_below_drewN | apply below_drew1) | exact HB.out)) hb); have n1_ := Aside0.mk (hbox); have n2_ := Aside0.mk ((by rw [hg]; exact (below_size (by repeat (first | (with_reducible first | exact HB.out | apply below_alloc | apply pw_below_drewN | apply below_drew1) | exact HB.out))) : w.heap.size ≤ gb277)); have n3_ := Aside0.mk ((by rw [hg]; exact (below_size (by repeat (first | (with_reducible first | exact HB.out | apply below_alloc | apply pw_below_drewN | apply below_drew1) | exact HB.out))) : w.heap.size ≤ gb277)); clear HB; have HB := n0_; have BK277 := n1_; have GW277 := n2_; have GE277 := n3_; clear n0_ n1_ n2_ n3_; clear hb hbox hg))
 go_loopg [5] k (fun kq v5 w' => ∃ (x5_1 : Int), v5 = .int .i64 x5_1 ∧ Aside0 (falseworkref18_index.l0 kq a1 x5_1 a0_0 a0_1 l0_2 l0_3 a0_4 = some r) ∧ Aside0 (kq ≤ k) ∧ Aside0 (w'.heap[gb277]? = some (.cells #[.int .i64 a0_0, .string a0_1, (.slice A0_2 l0_2.length c0_2), (.slice A0_3 l0_3.length c0_3), .int .i64 a0_4] 70 (0, 0))) ∧ Aside0 (Below w.heap.size w w'))
 case atStart => exact ⟨(0), (by first | rfl | (simp; done) | (simp [*]; done)), H', ⟨Nat.le_refl _⟩, ⟨by (with_reducible repeat (first | refine blk_drewN ?_ _ | refine blk_drew ?_ | refine blk_alloc ?_ _)); exact BK277.out⟩, ⟨by repeat (first | (with_reducible first | exact HB.out | apply below_alloc | apply pw_below_drewN | apply below_drew1 | refine below_set ?_ GE277.out) | exact HB.out)⟩⟩
 case round =>
  clear H'; (try clear p2); obtain ⟨x5_1, rfl, HA, HK1, BK277, HB⟩ := hrel
  cases gk with
  | zero => exact absurd HA.out (by simp [falseworkref18_index.l0])
  | succ k1 =>
   have H := HA.out; clear HA; simp only [falseworkref18_index.l0] at H
   by_cases c4 : x5_1 < (l0_3.length : Int)
   ·rw [if_pos c4] at H
    have c4b0 : decide (x5_1 < (l0_3.length : Int)) = true := decide_eq_true c4
    clear c4; by_cases c5 : 0 ≤ x5_1
    ·rw [if_pos c5] at H
     have c5b0 : decide (0 ≤ x5_1) = true := decide_eq_true c5
     clear c5; by_cases c6 : ((rd_T98 l0_3 x5_1).f0) = a1
     ·rw [if_pos c6] at H
      have c6b0 : (((rd_T98 l0_3 x5_1).f0) == a1) = true := beq_iff_eq.mpr c6
      have c6b1 : (((rd_T98 l0_3 x5_1).f0) != a1) = false := bne_eq_false_iff_eq.mpr c6
      clear c6; obtain rfl := Option.some.inj H; have hcz7_0 : wr.cell? ⟨gb277, 0, none⟩ = some (.int .i64 a0_0) := (Go.Proofs.YtjgomlcdmpcoaaaDoorW.PrintWords.blk_cell BK277.out 0).trans rfl
      have hcz7_1 : wr.cell? ⟨gb277, 1, none⟩ = some (.string a0_1) := (Go.Proofs.YtjgomlcdmpcoaaaDoorW.PrintWords.blk_cell BK277.out 1).trans rfl
      have hcz7_2 : wr.cell? ⟨gb277, 2, none⟩ = some (.slice A0_2 l0_2.length c0_2) := (Go.Proofs.YtjgomlcdmpcoaaaDoorW.PrintWords.blk_cell BK277.out 2).trans rfl
      have hcz7_3 : wr.cell? ⟨gb277, 3, none⟩ = some (.slice A0_3 l0_3.length c0_3) := (Go.Proofs.YtjgomlcdmpcoaaaDoorW.PrintWords.blk_cell BK277.out 3).trans rfl
      have hcz7_4 : wr.cell? ⟨gb277, 4, none⟩ = some (.int .i64 a0_4) := (Go.Proofs.YtjgomlcdmpcoaaaDoorW.PrintWords.blk_cell BK277.out 4).trans rfl
      have hfz7_0 := blk_frozen BK277.out 0
      have hfz7_1 := blk_frozen BK277.out 1
      have hfz7_2 := blk_frozen BK277.out 2
      have hfz7_3 := blk_frozen BK277.out 3
      have hfz7_4 := blk_frozen BK277.out 4
      have p278 : 0 ≤ (x5_1 : Int) := of_decide_eq_true (by first | (with_reducible assumption) | assumption)
      have q278 : x5_1 < (l0_3.length : Int) := of_decide_eq_true (by first | (with_reducible assumption) | assumption)
      obtain ⟨ad278, A278_2, c278_2, e278, hx278_0, hx278_1, hx278_2, hx278_3, hx278_4, hl278_2, hi278_2⟩ := at_T98 HR0_3.out x5_1 p278 q278
      cases e278
      replace hx278_0 := (HB.out.cell (World.block_lt_of_cell? w _ hx278_0)).trans hx278_0
      replace hx278_1 := (HB.out.cell (World.block_lt_of_cell? w _ hx278_1)).trans hx278_1
      replace hx278_2 := (HB.out.cell (World.block_lt_of_cell? w _ hx278_2)).trans hx278_2
      replace hx278_3 := (HB.out.cell (World.block_lt_of_cell? w _ hx278_3)).trans hx278_3
      replace hx278_4 := (HB.out.cell (World.block_lt_of_cell? w _ hx278_4)).trans hx278_4
      have HR278_2 := Aside0.mk hi278_2; have HC278_2 := Aside0.mk hl278_2; clear hi278_2 hl278_2; replace p278 := eq_true p278
      replace q278 := eq_true q278
      go_wp2; go_ret; exact ⟨by first | rfl | (simp [errW_none, errW_some] <;> rfl) | (simp [*, errW_none, errW_some] <;> rfl), by repeat (first | (with_reducible first | exact HB.out | apply below_alloc | apply pw_below_drewN | apply below_drew1 | refine below_set ?_ GE277.out) | exact HB.out)⟩
     ·rw [if_neg c6] at H
      have c6b0 : (((rd_T98 l0_3 x5_1).f0) == a1) = false := beq_eq_false_iff_ne.mpr c6
      have c6b1 : (((rd_T98 l0_3 x5_1).f0) != a1) = true := bne_iff_ne.mpr c6
      have H' := Aside0.mk H; clear H; have hcz8_0 : wr.cell? ⟨gb277, 0, none⟩ = some (.int .i64 a0_0) := (Go.Proofs.YtjgomlcdmpcoaaaDoorW.PrintWords.blk_cell BK277.out 0).trans rfl
      have hcz8_1 : wr.cell? ⟨gb277, 1, none⟩ = some (.string a0_1) := (Go.Proofs.YtjgomlcdmpcoaaaDoorW.PrintWords.blk_cell BK277.out 1).trans rfl
      have hcz8_2 : wr.cell? ⟨gb277, 2, none⟩ = some (.slice A0_2 l0_2.length c0_2) := (Go.Proofs.YtjgomlcdmpcoaaaDoorW.PrintWords.blk_cell BK277.out 2).trans rfl
      have hcz8_3 : wr.cell? ⟨gb277, 3, none⟩ = some (.slice A0_3 l0_3.length c0_3) := (Go.Proofs.YtjgomlcdmpcoaaaDoorW.PrintWords.blk_cell BK277.out 3).trans rfl
      have hcz8_4 : wr.cell? ⟨gb277, 4, none⟩ = some (.int .i64 a0_4) := (Go.Proofs.YtjgomlcdmpcoaaaDoorW.PrintWords.blk_cell BK277.out 4).trans rfl
      have hfz8_0 := blk_frozen BK277.out 0
      have hfz8_1 := blk_frozen BK277.out 1
      have hfz8_2 := blk_frozen BK277.out 2
      have hfz8_3 := blk_frozen BK277.out 3
      have hfz8_4 := blk_frozen BK277.out 4
      have p278 : 0 ≤ (x5_1 : Int) := of_decide_eq_true (by first | (with_reducible assumption) | assumption)
      have q278 : x5_1 < (l0_3.length : Int) := of_decide_eq_true (by first | (with_reducible assumption) | assumption)
      obtain ⟨ad278, A278_2, c278_2, e278, hx278_0, hx278_1, hx278_2, hx278_3, hx278_4, hl278_2, hi278_2⟩ := at_T98 HR0_3.out x5_1 p278 q278
      cases e278
      replace hx278_0 := (HB.out.cell (World.block_lt_of_cell? w _ hx278_0)).trans hx278_0
      replace hx278_1 := (HB.out.cell (World.block_lt_of_cell? w _ hx278_1)).trans hx278_1
      replace hx278_2 := (HB.out.cell (World.block_lt_of_cell? w _ hx278_2)).trans hx278_2
      replace hx278_3 := (HB.out.cell (World.block_lt_of_cell? w _ hx278_3)).trans hx278_3
      replace hx278_4 := (HB.out.cell (World.block_lt_of_cell? w _ hx278_4)).trans hx278_4
      have HR278_2 := Aside0.mk hi278_2; have HC278_2 := Aside0.mk hl278_2; clear hi278_2 hl278_2; replace p278 := eq_true p278
      replace q278 := eq_true q278
      go_wp2; go_roundg k1
      case measure => have := HK1.out; omega
      case rel => exact ⟨(wrap64 (x5_1 + 1)), (by first | rfl | (simp; done) | (simp [*]; done)), H', ⟨by have := HK1.out; omega⟩, ⟨by (with_reducible repeat (first | refine blk_drewN ?_ _ | refine blk_drew ?_ | refine blk_alloc ?_ _)); exact BK277.out⟩, ⟨by repeat (first | (with_reducible first | exact HB.out | apply below_alloc | apply pw_below_drewN | apply below_drew1 | refine below_set ?_ GE277.out) | exact HB.out)⟩⟩
    ·rw [if_neg c5] at H
     exact absurd H (by simp)
   ·rw [if_neg c4] at H
    have c4b0 : decide (x5_1 < (l0_3.length : Int)) = false := decide_eq_false c4
    clear c4; obtain rfl := Option.some.inj H; have hcz9_0 : wr.cell? ⟨gb277, 0, none⟩ = some (.int .i64 a0_0) := (Go.Proofs.YtjgomlcdmpcoaaaDoorW.PrintWords.blk_cell BK277.out 0).trans rfl
    have hcz9_1 : wr.cell? ⟨gb277, 1, none⟩ = some (.string a0_1) := (Go.Proofs.YtjgomlcdmpcoaaaDoorW.PrintWords.blk_cell BK277.out 1).trans rfl
    have hcz9_2 : wr.cell? ⟨gb277, 2, none⟩ = some (.slice A0_2 l0_2.length c0_2) := (Go.Proofs.YtjgomlcdmpcoaaaDoorW.PrintWords.blk_cell BK277.out 2).trans rfl
    have hcz9_3 : wr.cell? ⟨gb277, 3, none⟩ = some (.slice A0_3 l0_3.length c0_3) := (Go.Proofs.YtjgomlcdmpcoaaaDoorW.PrintWords.blk_cell BK277.out 3).trans rfl
    have hcz9_4 : wr.cell? ⟨gb277, 4, none⟩ = some (.int .i64 a0_4) := (Go.Proofs.YtjgomlcdmpcoaaaDoorW.PrintWords.blk_cell BK277.out 4).trans rfl
    have hfz9_0 := blk_frozen BK277.out 0
    have hfz9_1 := blk_frozen BK277.out 1
    have hfz9_2 := blk_frozen BK277.out 2
    have hfz9_3 := blk_frozen BK277.out 3
    have hfz9_4 := blk_frozen BK277.out 4
    go_wp2; go_ret; exact ⟨by first | rfl | (simp [errW_none, errW_some] <;> rfl) | (simp [*, errW_none, errW_some] <;> rfl), by repeat (first | (with_reducible first | exact HB.out | apply below_alloc | apply pw_below_drewN | apply below_drew1 | refine below_set ?_ GE277.out) | exact HB.out)⟩
end Go.Proofs.YtjgomlcdmpcoaaaDoor.D
namespace Go.Proofs.YtjgomlcdmpcoaaaDoor.D
open Go.RowKit Go.Proofs.YtjgomlcdmpcoaaaDoorW.PrintWords Go.Proofs.YtjgomlcdmpcoaaaDoorW.PrintLast Go.Proofs.YtjgomlcdmpcoaaaDoorW.PrintMore
attribute [local go_sem] max2_int min2_int max_two min_two max_three min_three max_four min_four
set_option linter.unusedVariables false
set_option linter.unusedSimpArgs false
def falseworkref18_column.l0 : Nat → Int → Int → Int → ByteArray → List (S75) → List (S98) → Int → Option (Int)
 | 0, _, _, _, _, _, _, _ => none
 | k + 1, x1, x5, x280000, x280001, x280002, x280003, x280004 => if x5 < (x280002.length : Int) then (if 0 ≤ x5 then (if ((rd_T75 x280002 x5).f0) = x1 then (some x5) else (falseworkref18_column.l0 k x1 (wrap64 (x5 + 1)) x280000 x280001 x280002 x280003 x280004)) else (none)) else (some (-1))
def falseworkref18_column.f (k : Nat) (a0_0 : Int) (a0_1 : ByteArray) (l0_2 : List (S75)) (l0_3 : List (S98)) (a0_4 : Int) (a1 : Int) : Option (Int) := falseworkref18_column.l0 k a1 0 a0_0 a0_1 l0_2 l0_3 a0_4
theorem falseworkref18_column.mono_l : ∀ k, (∀ y0 y1 y2 y3 y4 y5 y6, LeO (falseworkref18_column.l0 k y0 y1 y2 y3 y4 y5 y6) (falseworkref18_column.l0 (k + 1) y0 y1 y2 y3 y4 y5 y6))
 | 0 => fun _ _ _ _ _ _ _ r h => by simp [falseworkref18_column.l0] at h
 | k + 1 => by
  have ih0 := falseworkref18_column.mono_l k
  ·intro y0 y1 y2 y3 y4 y5 y6
   unfold falseworkref18_column.l0
   repeat' first
   | (with_reducible exact ih0 _ _ _ _ _ _ _)
   | (with_reducible exact LeO.refl _)
   | (with_reducible exact LeO.none _)
   | (with_reducible refine LeO.ite ?_ ?_)
   | (with_reducible refine LeO.bind ?_ (fun _ => ?_))
   | exact ih0 _ _ _ _ _ _ _
   | exact LeO.none _
   | refine LeO.ite ?_ ?_
   | refine LeO.bind ?_ (fun _ => ?_)
theorem falseworkref18_column.mono : ∀ a0 a1 a2 a3 a4 a5 k, LeO (falseworkref18_column.f k a0 a1 a2 a3 a4 a5) (falseworkref18_column.f (k + 1) a0 a1 a2 a3 a4 a5) := by
 intro a0 a1 a2 a3 a4 a5 k
 have ih0 := falseworkref18_column.mono_l k
 unfold falseworkref18_column.f
 repeat' first
   | (with_reducible exact ih0 _ _ _ _ _ _ _)
   | (with_reducible exact LeO.refl _)
   | (with_reducible exact LeO.none _)
   | (with_reducible refine LeO.ite ?_ ?_)
   | (with_reducible refine LeO.bind ?_ (fun _ => ?_))
   | exact ih0 _ _ _ _ _ _ _
   | exact LeO.none _
   | refine LeO.ite ?_ ?_
   | refine LeO.bind ?_ (fun _ => ?_)
set_option maxHeartbeats 8000000 in
set_option maxRecDepth 100000 in
theorem falseworkref18_column.calls (k : Nat) (a0_0 : Int) (a0_1 : ByteArray) (A0_2 : Option Addr) (c0_2 : Nat) (l0_2 : List (S75)) (A0_3 : Option Addr) (c0_3 : Nat) (l0_3 : List (S98)) (a0_4 : Int) (a1 : Int) (r : Int) (w : World) (hr0_2 : Kd.C k75 w A0_2 l0_2.length l0_2) (hc0_2 : l0_2.length ≤ c0_2) (hr0_3 : Kd.C k98 w A0_3 l0_3.length l0_3) (hc0_3 : l0_3.length ≤ c0_3) (h : falseworkref18_column.f k a0_0 a0_1 l0_2 l0_3 a0_4 a1 = some r) :
  Calls Tryd.prog 67 #[.agg #[.int .i64 a0_0, .string a0_1, .slice A0_2 l0_2.length c0_2, .slice A0_3 l0_3.length c0_3, .int .i64 a0_4], .int .i64 a1] w fun e w' => e = .returned (.int .i64 r) ∧ Below w.heap.size w w' := by
 have hu70 := Tryd.underlying70
 have HR0_2 := Aside0.mk hr0_2; have HC0_2 := Aside0.mk hc0_2; clear hr0_2 hc0_2; have HR0_3 := Aside0.mk hr0_3; have HC0_3 := Aside0.mk hc0_3; clear hr0_3 hc0_3; have HB := Aside0.mk (Below.refl w.heap.size w)
 have H : (falseworkref18_column.l0 k a1 0 a0_0 a0_1 l0_2 l0_3 a0_4) = some r := h
 clear h; have H' := Aside0.mk H; clear H; go_enter Tryd.func67, Tryd.ntmps67
 go_wp2_with (first | ((with_reducible refine gate_dst (N := 2) rfl ?_); refine box_event ?hg (N := 2) ?hd (cs := #[.int .i64 a0_0, .string a0_1, .slice A0_2 l0_2.length c0_2, .slice A0_3 l0_3.length c0_3, .int .i64 a0_4]) (t := 70) ?hr ?_; (case hd => rfl); (case hg => rfl); (case hr => first | (go_simp; done) | (go_simp; rfl)); intro gb279 hg w3 hbox hb; have n0_ := Aside0.mk (below_step (by repeat (first | (with_reducible first | exact HB.out | apply below_alloc | apply pw_below_drewN | apply below_drew1) | exact HB.out)) hb); have n1_ := Aside0.mk (hbox); have n2_ := Aside0.mk ((by rw [hg]; exact (below_size (by repeat (first | (with_reducible first | exact HB.out | apply below_alloc | apply pw_below_drewN | apply below_drew1) | exact HB.out))) : w.heap.size ≤ gb279)); have n3_ := Aside0.mk ((by rw [hg]; exact (below_size (by repeat (first | (with_reducible first | exact HB.out | apply below_alloc | apply pw_below_drewN | apply below_drew1) | exact HB.out))) : w.heap.size ≤ gb279)); clear HB; have HB := n0_; have BK279 := n1_; have GW279 := n2_; have GE279 := n3_; clear n0_ n1_ n2_ n3_; clear hb hbox hg))
 go_loopg [5] k (fun kq v5 w' => ∃ (x5_1 : Int), v5 = .int .i64 x5_1 ∧ Aside0 (falseworkref18_column.l0 kq a1 x5_1 a0_0 a0_1 l0_2 l0_3 a0_4 = some r) ∧ Aside0 (kq ≤ k) ∧ Aside0 (w'.heap[gb279]? = some (.cells #[.int .i64 a0_0, .string a0_1, (.slice A0_2 l0_2.length c0_2), (.slice A0_3 l0_3.length c0_3), .int .i64 a0_4] 70 (0, 0))) ∧ Aside0 (Below w.heap.size w w'))
 case atStart => exact ⟨(0), (by first | rfl | (simp; done) | (simp [*]; done)), H', ⟨Nat.le_refl _⟩, ⟨by (with_reducible repeat (first | refine blk_drewN ?_ _ | refine blk_drew ?_ | refine blk_alloc ?_ _)); exact BK279.out⟩, ⟨by repeat (first | (with_reducible first | exact HB.out | apply below_alloc | apply pw_below_drewN | apply below_drew1 | refine below_set ?_ GE279.out) | exact HB.out)⟩⟩
 case round =>
  clear H'; (try clear p2); obtain ⟨x5_1, rfl, HA, HK1, BK279, HB⟩ := hrel
  cases gk with
  | zero => exact absurd HA.out (by simp [falseworkref18_column.l0])
  | succ k1 =>
   have H := HA.out; clear HA; simp only [falseworkref18_column.l0] at H
   by_cases c4 : x5_1 < (l0_2.length : Int)
   ·rw [if_pos c4] at H
    have c4b0 : decide (x5_1 < (l0_2.length : Int)) = true := decide_eq_true c4
    clear c4; by_cases c5 : 0 ≤ x5_1
    ·rw [if_pos c5] at H
     have c5b0 : decide (0 ≤ x5_1) = true := decide_eq_true c5
     clear c5; by_cases c6 : ((rd_T75 l0_2 x5_1).f0) = a1
     ·rw [if_pos c6] at H
      have c6b0 : (((rd_T75 l0_2 x5_1).f0) == a1) = true := beq_iff_eq.mpr c6
      have c6b1 : (((rd_T75 l0_2 x5_1).f0) != a1) = false := bne_eq_false_iff_eq.mpr c6
      clear c6; obtain rfl := Option.some.inj H; have hcz7_0 : wr.cell? ⟨gb279, 0, none⟩ = some (.int .i64 a0_0) := (Go.Proofs.YtjgomlcdmpcoaaaDoorW.PrintWords.blk_cell BK279.out 0).trans rfl
      have hcz7_1 : wr.cell? ⟨gb279, 1, none⟩ = some (.string a0_1) := (Go.Proofs.YtjgomlcdmpcoaaaDoorW.PrintWords.blk_cell BK279.out 1).trans rfl
      have hcz7_2 : wr.cell? ⟨gb279, 2, none⟩ = some (.slice A0_2 l0_2.length c0_2) := (Go.Proofs.YtjgomlcdmpcoaaaDoorW.PrintWords.blk_cell BK279.out 2).trans rfl
      have hcz7_3 : wr.cell? ⟨gb279, 3, none⟩ = some (.slice A0_3 l0_3.length c0_3) := (Go.Proofs.YtjgomlcdmpcoaaaDoorW.PrintWords.blk_cell BK279.out 3).trans rfl
      have hcz7_4 : wr.cell? ⟨gb279, 4, none⟩ = some (.int .i64 a0_4) := (Go.Proofs.YtjgomlcdmpcoaaaDoorW.PrintWords.blk_cell BK279.out 4).trans rfl
      have hfz7_0 := blk_frozen BK279.out 0
      have hfz7_1 := blk_frozen BK279.out 1
      have hfz7_2 := blk_frozen BK279.out 2
      have hfz7_3 := blk_frozen BK279.out 3
      have hfz7_4 := blk_frozen BK279.out 4
      have p280 : 0 ≤ (x5_1 : Int) := of_decide_eq_true (by first | (with_reducible assumption) | assumption)
      have q280 : x5_1 < (l0_2.length : Int) := of_decide_eq_true (by first | (with_reducible assumption) | assumption)
      obtain ⟨ad280, e280, hx280_0, hx280_1, hx280_2, hx280_3, hx280_4, hx280_5, hx280_6, hx280_7, hx280_8⟩ := at_T75 HR0_2.out x5_1 p280 q280
      cases e280
      replace hx280_0 := (HB.out.cell (World.block_lt_of_cell? w _ hx280_0)).trans hx280_0
      replace hx280_1 := (HB.out.cell (World.block_lt_of_cell? w _ hx280_1)).trans hx280_1
      replace hx280_2 := (HB.out.cell (World.block_lt_of_cell? w _ hx280_2)).trans hx280_2
      replace hx280_3 := (HB.out.cell (World.block_lt_of_cell? w _ hx280_3)).trans hx280_3
      replace hx280_4 := (HB.out.cell (World.block_lt_of_cell? w _ hx280_4)).trans hx280_4
      replace hx280_5 := (HB.out.cell (World.block_lt_of_cell? w _ hx280_5)).trans hx280_5
      replace hx280_6 := (HB.out.cell (World.block_lt_of_cell? w _ hx280_6)).trans hx280_6
      replace hx280_7 := (HB.out.cell (World.block_lt_of_cell? w _ hx280_7)).trans hx280_7
      replace hx280_8 := (HB.out.cell (World.block_lt_of_cell? w _ hx280_8)).trans hx280_8
      replace p280 := eq_true p280
      replace q280 := eq_true q280
      go_wp2; go_ret; exact ⟨by first | rfl | (simp [errW_none, errW_some] <;> rfl) | (simp [*, errW_none, errW_some] <;> rfl), by repeat (first | (with_reducible first | exact HB.out | apply below_alloc | apply pw_below_drewN | apply below_drew1 | refine below_set ?_ GE279.out) | exact HB.out)⟩
     ·rw [if_neg c6] at H
      have c6b0 : (((rd_T75 l0_2 x5_1).f0) == a1) = false := beq_eq_false_iff_ne.mpr c6
      have c6b1 : (((rd_T75 l0_2 x5_1).f0) != a1) = true := bne_iff_ne.mpr c6
      have H' := Aside0.mk H; clear H; have hcz8_0 : wr.cell? ⟨gb279, 0, none⟩ = some (.int .i64 a0_0) := (Go.Proofs.YtjgomlcdmpcoaaaDoorW.PrintWords.blk_cell BK279.out 0).trans rfl
      have hcz8_1 : wr.cell? ⟨gb279, 1, none⟩ = some (.string a0_1) := (Go.Proofs.YtjgomlcdmpcoaaaDoorW.PrintWords.blk_cell BK279.out 1).trans rfl
      have hcz8_2 : wr.cell? ⟨gb279, 2, none⟩ = some (.slice A0_2 l0_2.length c0_2) := (Go.Proofs.YtjgomlcdmpcoaaaDoorW.PrintWords.blk_cell BK279.out 2).trans rfl
      have hcz8_3 : wr.cell? ⟨gb279, 3, none⟩ = some (.slice A0_3 l0_3.length c0_3) := (Go.Proofs.YtjgomlcdmpcoaaaDoorW.PrintWords.blk_cell BK279.out 3).trans rfl
      have hcz8_4 : wr.cell? ⟨gb279, 4, none⟩ = some (.int .i64 a0_4) := (Go.Proofs.YtjgomlcdmpcoaaaDoorW.PrintWords.blk_cell BK279.out 4).trans rfl
      have hfz8_0 := blk_frozen BK279.out 0
      have hfz8_1 := blk_frozen BK279.out 1
      have hfz8_2 := blk_frozen BK279.out 2
      have hfz8_3 := blk_frozen BK279.out 3
      have hfz8_4 := blk_frozen BK279.out 4
      have p280 : 0 ≤ (x5_1 : Int) := of_decide_eq_true (by first | (with_reducible assumption) | assumption)
      have q280 : x5_1 < (l0_2.length : Int) := of_decide_eq_true (by first | (with_reducible assumption) | assumption)
      obtain ⟨ad280, e280, hx280_0, hx280_1, hx280_2, hx280_3, hx280_4, hx280_5, hx280_6, hx280_7, hx280_8⟩ := at_T75 HR0_2.out x5_1 p280 q280
      cases e280
      replace hx280_0 := (HB.out.cell (World.block_lt_of_cell? w _ hx280_0)).trans hx280_0
      replace hx280_1 := (HB.out.cell (World.block_lt_of_cell? w _ hx280_1)).trans hx280_1
      replace hx280_2 := (HB.out.cell (World.block_lt_of_cell? w _ hx280_2)).trans hx280_2
      replace hx280_3 := (HB.out.cell (World.block_lt_of_cell? w _ hx280_3)).trans hx280_3
      replace hx280_4 := (HB.out.cell (World.block_lt_of_cell? w _ hx280_4)).trans hx280_4
      replace hx280_5 := (HB.out.cell (World.block_lt_of_cell? w _ hx280_5)).trans hx280_5
      replace hx280_6 := (HB.out.cell (World.block_lt_of_cell? w _ hx280_6)).trans hx280_6
      replace hx280_7 := (HB.out.cell (World.block_lt_of_cell? w _ hx280_7)).trans hx280_7
      replace hx280_8 := (HB.out.cell (World.block_lt_of_cell? w _ hx280_8)).trans hx280_8
      replace p280 := eq_true p280
      replace q280 := eq_true q280
      go_wp2; go_roundg k1
      case measure => have := HK1.out; omega
      case rel => exact ⟨(wrap64 (x5_1 + 1)), (by first | rfl | (simp; done) | (simp [*]; done)), H', ⟨by have := HK1.out; omega⟩, ⟨by (with_reducible repeat (first | refine blk_drewN ?_ _ | refine blk_drew ?_ | refine blk_alloc ?_ _)); exact BK279.out⟩, ⟨by repeat (first | (with_reducible first | exact HB.out | apply below_alloc | apply pw_below_drewN | apply below_drew1 | refine below_set ?_ GE279.out) | exact HB.out)⟩⟩
    ·rw [if_neg c5] at H
     exact absurd H (by simp)
   ·rw [if_neg c4] at H
    have c4b0 : decide (x5_1 < (l0_2.length : Int)) = false := decide_eq_false c4
    clear c4; obtain rfl := Option.some.inj H; have hcz9_0 : wr.cell? ⟨gb279, 0, none⟩ = some (.int .i64 a0_0) := (Go.Proofs.YtjgomlcdmpcoaaaDoorW.PrintWords.blk_cell BK279.out 0).trans rfl
    have hcz9_1 : wr.cell? ⟨gb279, 1, none⟩ = some (.string a0_1) := (Go.Proofs.YtjgomlcdmpcoaaaDoorW.PrintWords.blk_cell BK279.out 1).trans rfl
    have hcz9_2 : wr.cell? ⟨gb279, 2, none⟩ = some (.slice A0_2 l0_2.length c0_2) := (Go.Proofs.YtjgomlcdmpcoaaaDoorW.PrintWords.blk_cell BK279.out 2).trans rfl
    have hcz9_3 : wr.cell? ⟨gb279, 3, none⟩ = some (.slice A0_3 l0_3.length c0_3) := (Go.Proofs.YtjgomlcdmpcoaaaDoorW.PrintWords.blk_cell BK279.out 3).trans rfl
    have hcz9_4 : wr.cell? ⟨gb279, 4, none⟩ = some (.int .i64 a0_4) := (Go.Proofs.YtjgomlcdmpcoaaaDoorW.PrintWords.blk_cell BK279.out 4).trans rfl
    have hfz9_0 := blk_frozen BK279.out 0
    have hfz9_1 := blk_frozen BK279.out 1
    have hfz9_2 := blk_frozen BK279.out 2
    have hfz9_3 := blk_frozen BK279.out 3
    have hfz9_4 := blk_frozen BK279.out 4
    go_wp2; go_ret; exact ⟨by first | rfl | (simp [errW_none, errW_some] <;> rfl) | (simp [*, errW_none, errW_some] <;> rfl), by repeat (first | (with_reducible first | exact HB.out | apply below_alloc | apply pw_below_drewN | apply below_drew1 | refine below_set ?_ GE279.out) | exact HB.out)⟩
end Go.Proofs.YtjgomlcdmpcoaaaDoor.D
