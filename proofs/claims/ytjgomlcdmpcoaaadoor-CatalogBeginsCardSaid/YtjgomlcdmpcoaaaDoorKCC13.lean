/- Own texts of this session, packed by its program wip/pp/pack.py: lemmas and walks of functions. -/
import Derived.Deep.RegionLaw
import Derived.Deep.QuietTactic
import Derived.BigQuiet
import Derived.Test.YtjgomlcdmpcoaaaDoorKCC12
namespace Go.Proofs.YtjgomlcdmpcoaaaDoor.H
open Go.RowKit Go.Proofs.YtjgomlcdmpcoaaaDoorW.PrintWords Go.Proofs.YtjgomlcdmpcoaaaDoorW.PrintLast Go.Proofs.YtjgomlcdmpcoaaaDoorW.PrintMore
open Go.Proofs.YtjgomlcdmpcoaaaDoor.D Go.Proofs.YtjgomlcdmpcoaaaDoor
set_option linter.unusedVariables false
set_option linter.unusedSimpArgs false
def rcolsB : List (List UInt8) → List S75 → Bool
  | _, [] => true
  | ns, c :: r => !ns.contains (nm c.f1) && (columnB c && rcolsB (ns ++ [nm c.f1]) r)
def rindsB (t : S70) : List (List UInt8) → List S98 → Bool
  | _, [] => true
  | ns, x :: r => !ns.contains (nm x.f1) && (indexB t x && rindsB t (ns ++ [nm x.f1]) r)
def idsB (next : Int) : List Int → List Int → Bool
  | _, [] => true
  | pre, i :: r => fitsB next pre i && idsB next (pre ++ [i]) r
theorem tcols_parts (next : Int) : ∀ (l : List S75) (ids : List Int) (ns : List (List UInt8)), tcolsB next ids ns l = (rcolsB ns l && idsB next ids (l.map (·.f0)))
  | [], _, _ => rfl
  | c :: l, ids, ns => by
    rw [tcolsB, rcolsB, tcols_parts next l, List.map_cons, idsB]
    cases fitsB next ids c.f0 <;> cases ns.contains (nm c.f1) <;> cases columnB c <;> cases rcolsB (ns ++ [nm c.f1]) l <;> simp
theorem tinds_parts (t : S70) : ∀ (l : List S98) (ids : List Int) (ns : List (List UInt8)), tindsB t ids ns l = (rindsB t ns l && idsB t.f4 ids (l.map (·.f0)))
  | [], _, _ => rfl
  | c :: l, ids, ns => by
    rw [tindsB, rindsB, tinds_parts t l, List.map_cons, idsB]
    cases fitsB t.f4 ids c.f0 <;> cases ns.contains (nm c.f1) <;> cases indexB t c <;> cases rindsB t (ns ++ [nm c.f1]) l <;> simp
theorem ids_append (next : Int) : ∀ (l r pre : List Int), idsB next pre (l ++ r) = (idsB next pre l && idsB next (pre ++ l) r)
  | [], r, pre => by simp [idsB]
  | i :: l, r, pre => by
    rw [List.cons_append, idsB, idsB, ids_append next l r, Bool.and_assoc, List.append_assoc]
    rfl
theorem rcol_calls (c : S75) (h : ValWf c.f5) (w : World) : Calls Tryd.prog 126 #[.agg #[.int .i64 c.f0, .string c.f1, .int .i64 c.f2, .int .i64 c.f3, .int .i64 c.f4, .int .i64 c.f5.f0, .int .i64 c.f5.f1, .int .u64 c.f5.f2, .string c.f5.f3]] w
    fun e w' => e = .returned (.bool (columnB c)) ∧ Below w.heap.size w w' :=
  rcol126 c h w
theorem below_of_drew' {w w1 : World} (h : Below w.drew.heap.size w.drew w1) : Below w.heap.size w w1 := ⟨h.os, h.tape, h.output, h.size, h.block⟩
theorem add_zero' (ad : Addr) : ad.add 0 = ad := by unfold Addr.add; simp
theorem ct_no {α : Type} [BEq α] [LawfulBEq α] {l : List α} {j : Nat} {x : α} (h : j < l.length) (h1 : (l.take j).contains x = false) (h2 : l[j] ≠ x) : (l.take (j + 1)).contains x = false := by
  rw [List.take_succ_eq_append_getElem h, List.contains_append, h1, Bool.false_or, List.contains_cons, beq_eq_false_iff_ne.2 (Ne.symm h2)]
  rfl
theorem ct_yes {α : Type} [BEq α] [LawfulBEq α] {l : List α} {j n : Nat} {x : α} (hl : j < l.length) (h : j < n) (h2 : l[j] = x) : (l.take n).contains x = true := by
  rw [List.contains_iff_mem, List.mem_take_iff_getElem]
  exact ⟨j, by omega, h2⟩
structure RSt (w wr : World) (bx : Array Value) (v : Value) (ids : List Int) : Prop where
  below : Below w.heap.size w wr
  box : wr.heap[w.heap.size]? = some (.cells bx 70 (0, 0))
  row : Kd.R (Kd.int .i64) 3 wr w.heap.size (fun _ => True) v ids
theorem RSt.step {w wr w' : World} {bx : Array Value} {v : Value} {ids : List Int} (h : RSt w wr bx v ids) (hb : Below wr.heap.size wr w') : RSt w w' bx v ids :=
  ⟨below_then h.below h.below.size hb, blk_below h.box hb, Kd.R_below h.row hb⟩
theorem RSt.drew {w wr : World} {bx : Array Value} {v : Value} {ids : List Int} (h : RSt w wr bx v ids) (n : Nat) : RSt w (wr.drewN n) bx v ids := h.step (pw_below_drewN (Below.refl _ _) n)
def rtabB (t : S70) : Bool := decide (1 ≤ t.f4) && (decide (t.f4 ≤ 60000) && (decide (1 ≤ t.f2.length) && (decide (t.f2.length ≤ 8) && (decide (t.f3.length ≤ 4) && (keyB t && (rcolsB [] t.f2 && (rindsB t [] t.f3 && idsB t.f4 [] (t.f2.map (·.f0) ++ t.f3.map (·.f0)))))))))
theorem table_parts (t : S70) : tableB t = (nameB t.f1 && rtabB t) := by
  unfold tableB rtabB
  rw [tcols_parts, tinds_parts, ids_append, List.nil_append]
  cases nameB t.f1 <;> cases keyB t <;> cases rcolsB [] t.f2 <;> cases rindsB t [] t.f3 <;> cases idsB t.f4 [] (t.f2.map (·.f0)) <;> simp
set_option maxRecDepth 100000 in
set_option maxHeartbeats 16000000 in
theorem rtable_may (t : S70) (hw : ∀ c ∈ t.f2, ValWf c.f5) (A2 : Option Addr) (c2 : Nat) (A3 : Option Addr) (c3 : Nat) (w : World)
    (hc2 : t.f2.length ≤ c2) (g2 : k75.C w A2 t.f2.length t.f2) (hc3 : t.f3.length ≤ c3) (g3 : k98.C w A3 t.f3.length t.f3) :
    Calls Tryd.prog 75 #[.agg #[.int .i64 t.f0, .string t.f1, .slice A2 t.f2.length c2, .slice A3 t.f3.length c3, .int .i64 t.f4]] w fun e w' => e = .returned (.bool (tableB t)) ∧ Below w.heap.size w w' := by
  have HN := Lib.hid (fun w => rnam_calls t.f1 w)
  have HCL := Lib.hid rcol_calls
  have HIL := Lib.hid (rind_calls t)
  have HC := Aside0.mk g2
  have HX := Aside0.mk g3
  have HW := Aside0.mk hw
  have big2 := g2.2.1
  have big3 := g3.2.1
  have hI : tableB t = (nameB t.f1 && (decide (1 ≤ t.f4) && (decide (t.f4 ≤ 60000) && (decide (1 ≤ t.f2.length) && (decide (t.f2.length ≤ 8) && (decide (t.f3.length ≤ 4) && (keyB t && (rcolsB [] t.f2 && (rindsB t [] t.f3 && idsB t.f4 [] (t.f2.map (·.f0) ++ t.f3.map (·.f0))))))))))) := table_parts t
  generalize tableB t = R at hI ⊢
  generalize nameB t.f1 = nb at hI HN
  have HBX := Aside0.mk (heap_alloc_new w (.cells #[.int .i64 t.f0, .string t.f1, .slice A2 t.f2.length c2, .slice A3 t.f3.length c3, .int .i64 t.f4] 70))
  clear g2 g3 hw
  go_enter Tryd.func75, Tryd.ntmps75
  go_wp2_with fail
  refine (HN.out _).mono ?_
  rintro e w1 ⟨rfl, hb1⟩
  have hbx := blk_below HBX.out hb1
  have HB1 := Aside0.mk (below_then (below_alloc (Below.refl _ _) _) (by simp) hb1)
  have k2 := (pwC hbx 2).trans (rfl : _ = some (Value.slice A2 t.f2.length c2))
  have k3 := (pwC hbx 3).trans (rfl : _ = some (Value.slice A3 t.f3.length c3))
  have k4 := (pwC hbx 4).trans (rfl : _ = some (Value.int .i64 t.f4))
  have HBX1 := Aside0.mk hbx
  clear hb1 hbx
  cases nb with
  | false =>
    have HI := Lib.hid hI
    clear hI
    go_wp2
    go_ret
    exact ⟨by rw [HI.out]; rfl, HB1.out⟩
  | true =>
    rw [Bool.true_and] at hI
    cases q1 : decide (1 ≤ t.f4) with
    | false =>
      have e0 : decide (t.f4 < 1) = true := decide_eq_true (by have := of_decide_eq_false q1; omega)
      rw [q1] at hI
      have HI := Lib.hid hI
      clear hI q1
      go_wp2
      go_ret
      exact ⟨by rw [HI.out]; rfl, HB1.out⟩
    | true =>
      rw [q1, Bool.true_and] at hI
      have z0 := of_decide_eq_true q1
      have e0 : decide (t.f4 < 1) = false := decide_eq_false (by omega)
      clear q1
      cases q2 : decide (t.f4 ≤ 60000) with
      | false =>
        have e1 : decide (60000 < t.f4) = true := decide_eq_true (by have := of_decide_eq_false q2; omega)
        rw [q2] at hI
        have HI := Lib.hid hI
        clear hI q2
        go_wp2
        go_ret
        exact ⟨by rw [HI.out]; rfl, HB1.out⟩
      | true =>
        rw [q2, Bool.true_and] at hI
        have z1 := of_decide_eq_true q2
        have e1 : decide (60000 < t.f4) = false := decide_eq_false (by omega)
        clear q2
        cases q3 : decide (1 ≤ t.f2.length) with
        | false =>
          have e2 : decide ((t.f2.length : Int) < 1) = true := decide_eq_true (by have := of_decide_eq_false q3; omega)
          rw [q3] at hI
          have HI := Lib.hid hI
          clear hI q3
          go_wp2
          go_ret
          exact ⟨by rw [HI.out]; rfl, HB1.out⟩
        | true =>
          rw [q3, Bool.true_and] at hI
          have z2 := of_decide_eq_true q3
          have e2 : decide ((t.f2.length : Int) < 1) = false := decide_eq_false (by omega)
          clear q3
          cases q4 : decide (t.f2.length ≤ 8) with
          | false =>
            have e3 : decide (8 < (t.f2.length : Int)) = true := decide_eq_true (by have := of_decide_eq_false q4; omega)
            rw [q4] at hI
            have HI := Lib.hid hI
            clear hI q4
            go_wp2
            go_ret
            exact ⟨by rw [HI.out]; rfl, HB1.out⟩
          | true =>
            rw [q4, Bool.true_and] at hI
            have z3 := of_decide_eq_true q4
            have e3 : decide (8 < (t.f2.length : Int)) = false := decide_eq_false (by omega)
            clear q4
            cases q5 : decide (t.f3.length ≤ 4) with
            | false =>
              have e4 : decide (4 < (t.f3.length : Int)) = true := decide_eq_true (by have := of_decide_eq_false q5; omega)
              rw [q5] at hI
              have HI := Lib.hid hI
              clear hI q5
              go_wp2
              go_ret
              exact ⟨by rw [HI.out]; rfl, HB1.out⟩
            | true =>
              rw [q5, Bool.true_and] at hI
              have z4 := of_decide_eq_true q5
              have e4 : decide (4 < (t.f3.length : Int)) = false := decide_eq_false (by omega)
              clear q5
              have h0l : 0 < t.f2.length := by omega
              obtain ⟨ad, eA, h0, h1, h2, h3, h4, h5, h6, h7, h8⟩ := at_T75 (Kd.C_below HC.out HB1.out) 0 (by omega) (by omega)
              rw [show rd_T75 t.f2 0 = t.f2[0] from rd75 t.f2 0 h0l] at h0 h1 h2 h3 h4 h5 h6 h7 h8
              rw [keyB_of t h0l] at hI
              cases eA
              simp only [Int.toNat_zero, Nat.zero_mul, add_zero'] at h0 h1 h2 h3 h4 h5 h6 h7 h8
              generalize t.f2[0] = c0 at h0 h1 h2 h3 h4 h5 h6 h7 h8 hI
              cases s1 : (c0.f3 == 4) with
              | false =>
                rw [s1] at hI
                have t0 : (c0.f3 != 4) = true := by rw [bne, s1]; rfl
                have HI := Lib.hid hI
                clear hI s1
                go_wp2
                go_ret
                exact ⟨by rw [HI.out]; rfl, below_alloc HB1.out _⟩
              | true =>
                rw [s1] at hI
                simp only [Bool.true_and] at hI
                have t0 : (c0.f3 != 4) = false := by rw [bne, s1]; rfl
                clear s1
                cases s2 : (c0.f4 == 4) with
                | false =>
                  rw [s2] at hI
                  have t1 : (c0.f4 != 4) = true := by rw [bne, s2]; rfl
                  have HI := Lib.hid hI
                  clear hI s2
                  go_wp2
                  go_ret
                  exact ⟨by rw [HI.out]; rfl, below_alloc HB1.out _⟩
                | true =>
                  rw [s2] at hI
                  simp only [Bool.true_and] at hI
                  have t1 : (c0.f4 != 4) = false := by rw [bne, s2]; rfl
                  clear s2
                  cases s3 : (c0.f5.f0 == 0) with
                  | false =>
                    rw [s3] at hI
                    have t2 : (c0.f5.f0 != 0) = true := by rw [bne, s3]; rfl
                    have HI := Lib.hid hI
                    clear hI s3
                    go_wp2
                    go_ret
                    exact ⟨by rw [HI.out]; rfl, below_alloc HB1.out _⟩
                  | true =>
                    rw [s3] at hI
                    simp only [Bool.true_and] at hI
                    have t2 : (c0.f5.f0 != 0) = false := by rw [bne, s3]; rfl
                    clear s3
                    have HI := Lib.hid hI
                    clear hI
                    have HS := Aside0.mk (show RSt w (w1.alloc (.cells #[.int .i64 c0.f0, .string c0.f1, .int .i64 c0.f2, .int .i64 c0.f3, .int .i64 c0.f4, .int .i64 c0.f5.f0, .int .i64 c0.f5.f1, .int .u64 c0.f5.f2, .string c0.f5.f3] 75)) #[.int .i64 t.f0, .string t.f1, .slice (some ad) t.f2.length c2, .slice A3 t.f3.length c3, .int .i64 t.f4] (.slice none 0 0) [] from ⟨below_alloc HB1.out _, blk_alloc HBX1.out _, Kd.R_nil _ _ _ _ _⟩)
                    go_wp2_with fail
                    go_loopg [4, 5] t.f2.length (fun gg u4 u5 wr => ∃ kk : Nat, kk ≤ t.f2.length ∧ t.f2.length - kk ≤ gg ∧ u5 = .int .i64 kk ∧ Aside0 (RSt w wr #[.int .i64 t.f0, .string t.f1, .slice (some ad) t.f2.length c2, .slice A3 t.f3.length c3, .int .i64 t.f4] u4 ((t.f2.map (·.f0)).take kk)) ∧ Aside0 (rcolsB [] t.f2 = rcolsB ((t.f2.map fun c => nm c.f1).take kk) (t.f2.drop kk)))
                    case atStart => exact ⟨0, Nat.zero_le _, by omega, rfl, ⟨by simpa using HS.out⟩, ⟨by simp⟩⟩
                    case round =>
                      obtain ⟨kk, hkk, hgg, rfl, HT, HCI⟩ := hrel
                      clear HS
                      have k2 := (pwC HT.out.box 2).trans (rfl : _ = some (Value.slice (some ad) t.f2.length c2))
                      by_cases hlt : kk < t.f2.length
                      · have hltz : (kk : Int) < (t.f2.length : Int) := by omega
                        have hnl : kk < (t.f2.map fun c => nm c.f1).length := by rw [List.length_map]; exact hlt
                        have hd : t.f2.drop kk = t.f2[kk] :: t.f2.drop (kk + 1) := List.drop_eq_getElem_cons hlt
                        have hst : rcolsB [] t.f2 = (!((t.f2.map fun c => nm c.f1).take kk).contains (nm t.f2[kk].f1) && (columnB t.f2[kk] && rcolsB ((t.f2.map fun c => nm c.f1).take (kk + 1)) (t.f2.drop (kk + 1)))) := by
                          rw [HCI.out, hd, rcolsB, List.take_succ_eq_append_getElem hnl, List.getElem_map]
                        have HTI := Lib.hid (show ((t.f2.map (·.f0)).take (kk + 1)) = ((t.f2.map (·.f0)).take kk) ++ [t.f2[kk].f0] by rw [List.take_succ_eq_append_getElem (by rw [List.length_map]; exact hlt), List.getElem_map])
                        have hil : ((t.f2.map (·.f0)).take kk).length < 50 := by simp only [List.length_append, List.length_take, List.length_map]; omega
                        have HWC := Lib.hid (HW.out _ (List.getElem_mem hlt))
                        obtain ⟨c, hc⟩ : ∃ c, t.f2[kk] = c := ⟨_, rfl⟩
                        rw [hc] at hst HTI HWC
                        have HCQ := Lib.hid hc
                        have HST := Lib.hid hst
                        clear HCI hd hst hc hnl
                        obtain ⟨wo, hwo⟩ : ∃ wo : World, wo = wr := ⟨_, rfl⟩
                        subst hwo
                        go_wp2_with fail
                        go_loopg [6] kk (fun gg u6 wr => ∃ j : Nat, j ≤ kk ∧ kk - j ≤ gg ∧ u6 = .int .i64 j ∧ Aside0 (RSt w wr #[.int .i64 t.f0, .string t.f1, .slice (some ad) t.f2.length c2, .slice A3 t.f3.length c3, .int .i64 t.f4] u4 ((t.f2.map (·.f0)).take kk)) ∧ Aside0 (((t.f2.map fun c => nm c.f1).take j).contains (nm c.f1) = false))
                        case atStart => exact ⟨0, Nat.zero_le _, by omega, rfl, HT, ⟨rfl⟩⟩
                        case round =>
                          obtain ⟨j, hj, hgj, rfl, HT2, HNC⟩ := hrel
                          clear HT k2
                          have k2 := (pwC HT2.out.box 2).trans (rfl : _ = some (Value.slice (some ad) t.f2.length c2))
                          by_cases hjl : j < kk
                          · have hjz : (j : Int) < (kk : Int) := by omega
                            obtain ⟨ad_, eA, -, p1, -⟩ := at_T75 (Kd.C_below HC.out HT2.out.below) (j : Int) (by omega) (by omega)
                            cases eA
                            obtain ⟨ad_, eA, -, q1, -⟩ := at_T75 (Kd.C_below HC.out HT2.out.below) (kk : Int) (by omega) (by omega)
                            cases eA
                            rw [rd75 _ _ (by omega)] at p1
                            rw [rd75 _ _ hlt, HCQ.out] at q1
                            simp only [Int.toNat_natCast] at p1 q1
                            have hjz2 : (j : Int) < (t.f2.length : Int) := by omega
                            have hj0 : (0 : Int) ≤ (j : Int) := by omega
                            have hk0 : (0 : Int) ≤ (kk : Int) := by omega
                            have hnj : j < (t.f2.map fun c => nm c.f1).length := by rw [List.length_map]; omega
                            have hgj2 : (t.f2.map fun c => nm c.f1)[j] = nm (t.f2[j]'(by omega)).f1 := List.getElem_map ..
                            generalize (t.f2[j]'(by omega)).f1 = nj at p1 hgj2
                            by_cases hq : nm nj = nm c.f1
                            · have HF := Lib.hid (show rcolsB [] t.f2 = false by rw [HST.out, ct_yes hnj hjl (hgj2.trans hq)]; rfl)
                              have te : (nj.toList == c.f1.toList) = true := by rw [ByteArray.toList_eq, ByteArray.toList_eq]; exact beq_iff_eq.2 hq
                              clear hq hgj2 hnj
                              go_wp2_with fail
                              go_quiet (fail)
                              go_wp2
                              go_ret
                              exact ⟨by rw [HI.out, HF.out]; rfl, (HT2.out.drew _).below⟩
                            · have HN2 := Aside0.mk (ct_no hnj HNC.out (by rw [hgj2]; exact hq))
                              have te : (nj.toList == c.f1.toList) = false := by rw [ByteArray.toList_eq, ByteArray.toList_eq]; exact beq_eq_false_iff_ne.2 hq
                              clear hq hgj2 hnj HNC
                              go_wp2_with fail
                              go_quiet (fail)
                              go_wp2
                              go_roundg (kk - (j + 1))
                              case measure => omega
                              case rel => exact ⟨j + 1, by omega, by omega, by go_num, ⟨HT2.out.drew _⟩, HN2⟩
                          · obtain rfl : j = kk := by omega
                            obtain ⟨ad_, eA, h0, h1, h2, h3, h4, h5, h6, h7, h8⟩ := at_T75 (Kd.C_below HC.out HT2.out.below) (j : Int) (by omega) (by omega)
                            cases eA
                            rw [rd75 _ _ hlt, HCQ.out] at h0 h1 h2 h3 h4 h5 h6 h7 h8
                            simp only [Int.toNat_natCast] at h0 h1 h2 h3 h4 h5 h6 h7 h8
                            have HC1 := Lib.hid (fun w => HCL.out c HWC.out w)
                            generalize columnB c = cb at HST HC1
                            have hjj : ¬ (j : Int) < (j : Int) := by omega
                            go_wp2_with fail
                            refine (HC1.out _).mono ?_
                            rintro e w2 ⟨rfl, hb2⟩
                            have HT3 := Aside0.mk (HT2.out.step hb2)
                            have g0 := pw_cell_below hb2 h0
                            clear h0 h1 h2 h3 h4 h5 h6 h7 h8 k2 hb2
                            have k2 := (pwC HT3.out.box 2).trans (rfl : _ = some (Value.slice (some ad) t.f2.length c2))
                            cases cb with
                            | false =>
                              have HF := Lib.hid (show rcolsB [] t.f2 = false by rw [HST.out, HNC.out]; rfl)
                              go_wp2
                              go_ret
                              exact ⟨by rw [HI.out, HF.out]; rfl, HT3.out.below⟩
                            | true =>
                              have HST2 := Lib.hid (show rcolsB [] t.f2 = rcolsB ((t.f2.map fun c => nm c.f1).take (j + 1)) (t.f2.drop (j + 1)) by rw [HST.out, HNC.out]; rfl)
                              go_wp2_with ((with_reducible refine gate_builtin (b := .append) (xs := #[.tmp 93, .tmp 100]) rfl ?_); at_builtin; refine Kd.R_append (Kd.int .i64) (w0 := w) w.heap.size rfl (.tmp 93) (.tmp 100) 40 3 (.int .i64 0) 8 rfl Tryd.underlying40 info3 rfl (by decide) (by omega) u4 ((t.f2.map (·.f0)).take j) c.f0 [.int .i64 c.f0] (fun _ => True) (fun _ => False) rfl rfl rfl (fun _ hk => hk.elim) (fun _ _ => trivial) HT3.out.row HT3.out.below HT3.out.below.size (by omega) ?_; intro v1 w3 ho hb hg hat; have HT4 := Aside0.mk (show RSt w w3 #[.int .i64 t.f0, .string t.f1, .slice (some ad) t.f2.length c2, .slice A3 t.f3.length c3, .int .i64 t.f4] v1 _ from ⟨hb, blk_grown HT3.out.box hg (Kd.R_ne HT3.out.row HT3.out.box (by decide)), ho⟩); clear ho hb hg hat)
                              rw [← HTI.out] at HT4
                              go_roundg (t.f2.length - (j + 1))
                              case measure => omega
                              case rel => exact ⟨j + 1, by omega, by omega, by go_num, HT4, ⟨HST2.out⟩⟩
                      · have hltz : ¬ (kk : Int) < (t.f2.length : Int) := by omega
                        have hRC : rcolsB [] t.f2 = true := by rw [HCI.out, List.drop_eq_nil_of_le (by omega)]; rfl
                        have HRC := Lib.hid hRC
                        have hall : (t.f2.map (·.f0)).take kk = t.f2.map (·.f0) := List.take_of_length_le (by rw [List.length_map]; omega)
                        rw [hall] at HT
                        have HS := HT
                        clear HT HCI hall hRC
                        have k3 := (pwC HS.out.box 3).trans (rfl : _ = some (Value.slice A3 t.f3.length c3))
                        obtain ⟨wo, hwo⟩ : ∃ wo : World, wo = wr := ⟨_, rfl⟩
                        subst hwo
                        go_wp2_with fail
                        go_loopg [4, 7] t.f3.length (fun gg u4 u5 wr => ∃ kk : Nat, kk ≤ t.f3.length ∧ t.f3.length - kk ≤ gg ∧ u5 = .int .i64 kk ∧ Aside0 (RSt w wr #[.int .i64 t.f0, .string t.f1, .slice (some ad) t.f2.length c2, .slice A3 t.f3.length c3, .int .i64 t.f4] u4 (t.f2.map (·.f0) ++ (t.f3.map (·.f0)).take kk)) ∧ Aside0 (rindsB t [] t.f3 = rindsB t ((t.f3.map fun c => nm c.f1).take kk) (t.f3.drop kk)))
                        case atStart => exact ⟨0, Nat.zero_le _, by omega, rfl, ⟨by simpa using HS.out⟩, ⟨by simp⟩⟩
                        case round =>
                          obtain ⟨kk, hkk, hgg, rfl, HT, HCI⟩ := hrel
                          clear HS
                          have k3 := (pwC HT.out.box 3).trans (rfl : _ = some (Value.slice A3 t.f3.length c3))
                          by_cases hlt : kk < t.f3.length
                          · have hltz : (kk : Int) < (t.f3.length : Int) := by omega
                            obtain ⟨ad3, _, _, eA, -⟩ := at_T98 (Kd.C_below HX.out HT.out.below) (kk : Int) (by omega) (by omega)
                            cases eA
                            have hnl : kk < (t.f3.map fun c => nm c.f1).length := by rw [List.length_map]; exact hlt
                            have hd : t.f3.drop kk = t.f3[kk] :: t.f3.drop (kk + 1) := List.drop_eq_getElem_cons hlt
                            have hst : rindsB t [] t.f3 = (!((t.f3.map fun c => nm c.f1).take kk).contains (nm t.f3[kk].f1) && (indexB t t.f3[kk] && rindsB t ((t.f3.map fun c => nm c.f1).take (kk + 1)) (t.f3.drop (kk + 1)))) := by
                              rw [HCI.out, hd, rindsB, List.take_succ_eq_append_getElem hnl, List.getElem_map]
                            have HTI := Lib.hid (show (t.f2.map (·.f0) ++ (t.f3.map (·.f0)).take (kk + 1)) = (t.f2.map (·.f0) ++ (t.f3.map (·.f0)).take kk) ++ [t.f3[kk].f0] by rw [List.take_succ_eq_append_getElem (by rw [List.length_map]; exact hlt), List.getElem_map, List.append_assoc])
                            have hil : (t.f2.map (·.f0) ++ (t.f3.map (·.f0)).take kk).length < 50 := by simp only [List.length_append, List.length_take, List.length_map]; omega
                            obtain ⟨c, hc⟩ : ∃ c, t.f3[kk] = c := ⟨_, rfl⟩
                            rw [hc] at hst HTI
                            have HCQ := Lib.hid hc
                            have HST := Lib.hid hst
                            clear HCI hd hst hc hnl
                            obtain ⟨wo, hwo⟩ : ∃ wo : World, wo = wr := ⟨_, rfl⟩
                            subst hwo
                            go_wp2_with fail
                            go_loopg [8] kk (fun gg u6 wr => ∃ j : Nat, j ≤ kk ∧ kk - j ≤ gg ∧ u6 = .int .i64 j ∧ Aside0 (RSt w wr #[.int .i64 t.f0, .string t.f1, .slice (some ad) t.f2.length c2, .slice (some ad3) t.f3.length c3, .int .i64 t.f4] u4 (t.f2.map (·.f0) ++ (t.f3.map (·.f0)).take kk)) ∧ Aside0 (((t.f3.map fun c => nm c.f1).take j).contains (nm c.f1) = false))
                            case atStart => exact ⟨0, Nat.zero_le _, by omega, rfl, HT, ⟨rfl⟩⟩
                            case round =>
                              obtain ⟨j, hj, hgj, rfl, HT2, HNC⟩ := hrel
                              clear HT k3
                              have k3 := (pwC HT2.out.box 3).trans (rfl : _ = some (Value.slice (some ad3) t.f3.length c3))
                              by_cases hjl : j < kk
                              · have hjz : (j : Int) < (kk : Int) := by omega
                                obtain ⟨ad_, _, _, eA, -, p1, -⟩ := at_T98 (Kd.C_below HX.out HT2.out.below) (j : Int) (by omega) (by omega)
                                cases eA
                                obtain ⟨ad_, _, _, eA, -, q1, -⟩ := at_T98 (Kd.C_below HX.out HT2.out.below) (kk : Int) (by omega) (by omega)
                                cases eA
                                rw [rd98 _ _ (by omega)] at p1
                                rw [rd98 _ _ hlt, HCQ.out] at q1
                                simp only [Int.toNat_natCast] at p1 q1
                                have hjz2 : (j : Int) < (t.f3.length : Int) := by omega
                                have hj0 : (0 : Int) ≤ (j : Int) := by omega
                                have hk0 : (0 : Int) ≤ (kk : Int) := by omega
                                have hnj : j < (t.f3.map fun c => nm c.f1).length := by rw [List.length_map]; omega
                                have hgj2 : (t.f3.map fun c => nm c.f1)[j] = nm (t.f3[j]'(by omega)).f1 := List.getElem_map ..
                                generalize (t.f3[j]'(by omega)).f1 = nj at p1 hgj2
                                by_cases hq : nm nj = nm c.f1
                                · have HF := Lib.hid (show rindsB t [] t.f3 = false by rw [HST.out, ct_yes hnj hjl (hgj2.trans hq)]; rfl)
                                  have te : (nj.toList == c.f1.toList) = true := by rw [ByteArray.toList_eq, ByteArray.toList_eq]; exact beq_iff_eq.2 hq
                                  clear hq hgj2 hnj
                                  go_wp2_with fail
                                  go_quiet (fail)
                                  go_wp2
                                  go_ret
                                  exact ⟨by rw [HI.out, HRC.out, HF.out]; rfl, (HT2.out.drew _).below⟩
                                · have HN2 := Aside0.mk (ct_no hnj HNC.out (by rw [hgj2]; exact hq))
                                  have te : (nj.toList == c.f1.toList) = false := by rw [ByteArray.toList_eq, ByteArray.toList_eq]; exact beq_eq_false_iff_ne.2 hq
                                  clear hq hgj2 hnj HNC
                                  go_wp2_with fail
                                  go_quiet (fail)
                                  go_wp2
                                  go_roundg (kk - (j + 1))
                                  case measure => omega
                                  case rel => exact ⟨j + 1, by omega, by omega, by go_num, ⟨HT2.out.drew _⟩, HN2⟩
                              · obtain rfl : j = kk := by omega
                                obtain ⟨ad_, B2, d2, eA, h0, h1, h2, h3, h4, hd2, hcols⟩ := at_T98 (Kd.C_below HX.out HT2.out.below) (j : Int) (by omega) (by omega)
                                cases eA
                                rw [rd98 _ _ hlt, HCQ.out] at h0 h1 h2 h3 h4 hd2 hcols
                                simp only [Int.toNat_natCast] at h0 h1 h2 h3 h4
                                have k0 := (pwC HT2.out.box 0).trans (rfl : _ = some (Value.int .i64 t.f0))
                                have k1 := (pwC HT2.out.box 1).trans (rfl : _ = some (Value.string t.f1))
                                have k2 := (pwC HT2.out.box 2).trans (rfl : _ = some (Value.slice (some ad) t.f2.length c2))
                                have k4 := (pwC HT2.out.box 4).trans (rfl : _ = some (Value.int .i64 t.f4))
                                have HC1 := Lib.hid (fun (w' : World) (hb : Below w.heap.size w w') (hq : (Kd.int .i64).C w' B2 c.f2.length c.f2) => HIL.out c (by omega) (some ad) c2 (some ad3) c3 B2 d2 w' hc2 (Kd.C_below HC.out hb) hc3 (Kd.C_below HX.out hb) hd2 hq)
                                generalize indexB t c = cb at HST HC1
                                have HI2 := Aside0.mk hcols
                                have hjj : ¬ (j : Int) < (j : Int) := by omega
                                have hj0 : (0 : Int) ≤ (j : Int) := by omega
                                clear hcols
                                go_wp2_with fail
                                go_region_law ((go_simp; go_at_call 127; refine (HC1.out _ (below_drew HT2.out.below) (Kd.C_below HI2.out (below_drew (Below.refl _ _)))).mono ?_; rintro e w2 ⟨rfl, hb0⟩; have hb2 := below_of_drew' hb0))
                                all_goals
                                  have HT3 := Aside0.mk (HT2.out.step hb2)
                                  have g0 := pw_cell_below hb2 h0
                                  clear h0 h1 h2 h3 h4 k0 k1 k2 k3 k4 hb2
                                  have k3 := (pwC HT3.out.box 3).trans (rfl : _ = some (Value.slice (some ad3) t.f3.length c3))
                                  cases cb with
                                  | false =>
                                    have HF := Lib.hid (show rindsB t [] t.f3 = false by rw [HST.out, HNC.out]; rfl)
                                    go_wp2
                                    go_ret
                                    exact ⟨by rw [HI.out, HRC.out, HF.out]; rfl, HT3.out.below⟩
                                  | true =>
                                    have HST2 := Lib.hid (show rindsB t [] t.f3 = rindsB t ((t.f3.map fun c => nm c.f1).take (j + 1)) (t.f3.drop (j + 1)) by rw [HST.out, HNC.out]; rfl)
                                    go_wp2_with ((with_reducible refine gate_builtin (b := .append) (xs := #[.tmp 135, .tmp 142]) rfl ?_); at_builtin; refine Kd.R_append (Kd.int .i64) (w0 := w) w.heap.size rfl (.tmp 135) (.tmp 142) 40 3 (.int .i64 0) 8 rfl Tryd.underlying40 info3 rfl (by decide) (by omega) u4 (t.f2.map (·.f0) ++ (t.f3.map (·.f0)).take j) c.f0 [.int .i64 c.f0] (fun _ => True) (fun _ => False) rfl rfl rfl (fun _ hk => hk.elim) (fun _ _ => trivial) HT3.out.row HT3.out.below HT3.out.below.size (by omega) ?_; intro v1 w3 ho hb hg hat; have HT4 := Aside0.mk (show RSt w w3 #[.int .i64 t.f0, .string t.f1, .slice (some ad) t.f2.length c2, .slice (some ad3) t.f3.length c3, .int .i64 t.f4] v1 _ from ⟨hb, blk_grown HT3.out.box hg (Kd.R_ne HT3.out.row HT3.out.box (by decide)), ho⟩); clear ho hb hg hat)
                                    rw [← HTI.out] at HT4
                                    go_roundg (t.f3.length - (j + 1))
                                    case measure => omega
                                    case rel => exact ⟨j + 1, by omega, by omega, by go_num, HT4, ⟨HST2.out⟩⟩
                          · have hltz : ¬ (kk : Int) < (t.f3.length : Int) := by omega
                            have hRX : rindsB t [] t.f3 = true := by rw [HCI.out, List.drop_eq_nil_of_le (by omega)]; rfl
                            have hall : (t.f3.map (·.f0)).take kk = t.f3.map (·.f0) := List.take_of_length_le (by rw [List.length_map]; omega)
                            rw [hall] at HT
                            have HI2 := Lib.hid (show R = idsB t.f4 [] (t.f2.map (·.f0) ++ t.f3.map (·.f0)) by rw [HI.out, HRC.out, hRX]; rfl)
                            clear HCI hall hRX
                            have hLl : (t.f2.map (·.f0) ++ t.f3.map (·.f0)).length ≤ 50 := by rw [List.length_append, List.length_map, List.length_map]; omega
                            obtain ⟨L, hL⟩ : ∃ L, t.f2.map (·.f0) ++ t.f3.map (·.f0) = L := ⟨_, rfl⟩
                            rw [hL] at HT HI2 hLl
                            obtain ⟨A4, c4, h4⟩ := Kd.R_slice HT.out.row
                            subst h4
                            have HS := HT
                            clear HT hL
                            obtain ⟨wo, hwo⟩ : ∃ wo : World, wo = wr := ⟨_, rfl⟩
                            subst hwo
                            go_wp2_with fail
                            go_loopg [9] L.length (fun gg u9 wr => ∃ i : Nat, i ≤ L.length ∧ L.length - i ≤ gg ∧ u9 = .int .i64 i ∧ Aside0 (RSt w wr #[.int .i64 t.f0, .string t.f1, .slice (some ad) t.f2.length c2, .slice A3 t.f3.length c3, .int .i64 t.f4] (.slice A4 L.length c4) L) ∧ Aside0 (idsB t.f4 [] L = idsB t.f4 (L.take i) (L.drop i)))
                            case atStart => exact ⟨0, Nat.zero_le _, by omega, rfl, HS, ⟨rfl⟩⟩
                            case round =>
                              obtain ⟨i, hi, hgi, rfl, HT, HCI⟩ := hrel
                              clear HS
                              by_cases hlt : i < L.length
                              · have hltz : (i : Int) < (L.length : Int) := by omega
                                have hi0 : (0 : Int) ≤ (i : Int) := by omega
                                have hst : idsB t.f4 [] L = (fitsB t.f4 (L.take i) L[i] && idsB t.f4 (L.take (i + 1)) (L.drop (i + 1))) := by
                                  rw [HCI.out, List.drop_eq_getElem_cons hlt, idsB, List.take_succ_eq_append_getElem hlt]
                                unfold fitsB at hst
                                obtain ⟨-, _, g4⟩ := Kd.R_reads' HT.out.row
                                obtain ⟨ad4, eA, q1⟩ := Kd.at_int g4 (i : Int) (by omega) (by omega)
                                cases eA
                                rw [rd_nat _ _ hlt] at q1
                                simp only [Int.toNat_natCast] at q1
                                obtain ⟨x, hx⟩ : ∃ x, L[i] = x := ⟨_, rfl⟩
                                rw [hx] at q1 hst
                                have HXQ := Lib.hid hx
                                have k4 := (pwC HT.out.box 4).trans (rfl : _ = some (Value.int .i64 t.f4))
                                clear HCI hx g4
                                by_cases c1 : x < 1
                                · have HF := Lib.hid (show idsB t.f4 [] L = false by rw [hst, decide_eq_false (by omega : ¬ 1 ≤ x)]; rfl)
                                  have t1 : decide (x < 1) = true := decide_eq_true c1
                                  clear hst c1
                                  go_wp2_with fail
                                  go_quiet (fail)
                                  go_wp2
                                  go_ret
                                  exact ⟨by rw [HI2.out, HF.out] <;> rfl, (HT.out.drew _).below⟩
                                · have t1 : decide (x < 1) = false := decide_eq_false c1
                                  by_cases c2 : x < t.f4
                                  · have t2 : decide (t.f4 ≤ x) = false := decide_eq_false (by omega)
                                    rw [decide_eq_true (by omega : 1 ≤ x), decide_eq_true c2, Bool.true_and, Bool.true_and] at hst
                                    have HST := Lib.hid hst
                                    clear hst c1 c2
                                    go_wp2_with fail
                                    go_quiet (fail)
                                    have HT1 := Aside0.mk (HT.out.drew nq)
                                    clear HT q1 k4
                                    obtain ⟨wo, hwo⟩ : ∃ wo : World, wo = wr.drewN nq := ⟨_, rfl⟩
                                    rw [← hwo] at HT1 ⊢
                                    clear hwo
                                    go_wp2_with fail
                                    go_loopg [10] i (fun gg u10 wr => ∃ j : Nat, j ≤ i ∧ i - j ≤ gg ∧ u10 = .int .i64 j ∧ Aside0 (RSt w wr #[.int .i64 t.f0, .string t.f1, .slice (some ad) t.f2.length c2, .slice A3 t.f3.length c3, .int .i64 t.f4] (.slice (some ad4) L.length c4) L) ∧ Aside0 ((L.take j).contains x = false))
                                    case atStart => exact ⟨0, Nat.zero_le _, by omega, rfl, HT1, ⟨rfl⟩⟩
                                    case round =>
                                      obtain ⟨j, hj, hgj, rfl, HT2, HNC⟩ := hrel
                                      clear HT1
                                      by_cases hjl : j < i
                                      · have hjz : (j : Int) < (i : Int) := by omega
                                        have hjz2 : (j : Int) < (L.length : Int) := by omega
                                        have hj0 : (0 : Int) ≤ (j : Int) := by omega
                                        have hjL : j < L.length := by omega
                                        obtain ⟨-, _, g4⟩ := Kd.R_reads' HT2.out.row
                                        obtain ⟨ad_, eA, q1⟩ := Kd.at_int g4 (i : Int) (by omega) (by omega)
                                        cases eA
                                        obtain ⟨ad_, eA, p1⟩ := Kd.at_int g4 (j : Int) (by omega) (by omega)
                                        cases eA
                                        rw [rd_nat _ _ hlt, HXQ.out] at q1
                                        rw [rd_nat _ _ hjL] at p1
                                        simp only [Int.toNat_natCast] at p1 q1
                                        clear g4
                                        by_cases hq : L[j] = x
                                        · have HF := Lib.hid (show idsB t.f4 [] L = false by rw [HST.out, ct_yes hjL hjl hq]; rfl)
                                          rw [hq] at p1
                                          clear hq
                                          go_wp2_with fail
                                          go_quiet (fail)
                                          go_wp2
                                          go_ret
                                          exact ⟨by rw [HI2.out, HF.out] <;> rfl, (HT2.out.drew _).below⟩
                                        · have HN2 := Aside0.mk (ct_no hjL HNC.out hq)
                                          have te : (L[j] == x) = false := beq_eq_false_iff_ne.2 hq
                                          clear hq HNC
                                          go_wp2_with fail
                                          go_quiet (fail)
                                          go_wp2
                                          go_roundg (i - (j + 1))
                                          case measure => omega
                                          case rel => exact ⟨j + 1, by omega, by omega, by go_num, ⟨HT2.out.drew _⟩, HN2⟩
                                      · obtain rfl : j = i := by omega
                                        have HST2 := Lib.hid (show idsB t.f4 [] L = idsB t.f4 (L.take (j + 1)) (L.drop (j + 1)) by rw [HST.out, HNC.out]; rfl)
                                        have hjj : ¬ (j : Int) < (j : Int) := by omega
                                        go_wp2
                                        go_roundg (L.length - (j + 1))
                                        case measure => omega
                                        case rel => exact ⟨j + 1, by omega, by omega, by go_num, HT2, ⟨HST2.out⟩⟩
                                  · have t2 : decide (t.f4 ≤ x) = true := decide_eq_true (by omega)
                                    have HF := Lib.hid (show idsB t.f4 [] L = false by rw [hst, decide_eq_false c2]; simp)
                                    clear hst c1 c2
                                    go_wp2_with fail
                                    go_quiet (fail)
                                    go_wp2
                                    go_ret
                                    exact ⟨by rw [HI2.out, HF.out] <;> rfl, (HT.out.drew _).below⟩
                              · have hltz : ¬ (i : Int) < (L.length : Int) := by omega
                                have HF := Lib.hid (show idsB t.f4 [] L = true by rw [HCI.out, List.drop_eq_nil_of_le (by omega)]; rfl)
                                go_wp2
                                go_ret
                                exact ⟨by rw [HI2.out, HF.out] <;> rfl, HT.out.below⟩
end Go.Proofs.YtjgomlcdmpcoaaaDoor.H
