/- Own texts of this session, packed by its program wip/pp/pack.py: lemmas and walks of functions. -/
import Derived.Test.YtjgomlcdmpcoaaaDoorKCC18
namespace Go.Proofs.YtjgomlcdmpcoaaaDoor.H
open Go.RowKit Go.Proofs.YtjgomlcdmpcoaaaDoorW.PrintWords Go.Proofs.YtjgomlcdmpcoaaaDoorW.PrintLast Go.Proofs.YtjgomlcdmpcoaaaDoorW.PrintMore
open Go.Proofs.YtjgomlcdmpcoaaaDoor.D Go.Proofs.YtjgomlcdmpcoaaaDoor
attribute [local go_sem] max2_int min2_int max_two min_two max_three min_three max_four min_four
set_option linter.unusedVariables false
set_option linter.unusedSimpArgs false
def newCols : Nat → List ByteArray → List Int → List S75
  | i, n :: ns, k :: ks => ⟨(i : Int) + 1, n, k, 4, if i = 0 then 4 else 0, z73⟩ :: newCols (i + 1) ns ks
  | _, _, _ => []
def badCols : List ByteArray → List Int → Bool
  | n :: ns, k :: ks => (!nameB n || (decide (k < 1) || decide (5 < k))) || badCols ns ks
  | _, _ => false
def createP (v : Int) (ts : List S70) (nx : Int) (s : S45) : Told :=
  if schB v ts nx = false then noTold 3
  else if 1099511627775 ≤ v then noTold 4
  else if s.f0 ≠ 5 then noTold 1
  else if nameB s.f1 = false ∨ s.f3.length ≠ s.f9.length ∨ s.f3.length < 1 ∨ 8 < s.f3.length then noTold 3
  else if badCols s.f3 s.f9 = true then noTold 3
  else if 0 ≤ idxL (tName s.f1) ts 0 ∨ twiceB [] s.f3 = true then noTold 6
  else if 4 ≤ ts.length ∨ 60000 ≤ nx then noTold 4
  else ⟨v + 1, ts ++ [⟨mx nx 1, s.f1, newCols 0 s.f3 s.f9, [], (s.f3.length : Int) + 1⟩], mx nx 1 + 1, 0, 0, 0⟩
def TellsE (w : World) (r : Told) (e : Ending) (w' : World) : Prop :=
  ∃ A c, e = .returned (.tuple #[.agg #[.int .i64 r.v, .slice A r.ts.length c, .int .i64 r.nx], .int .i64 r.err]) ∧ k70.R 70 w' w.heap.size (fun _ => True) (.slice A r.ts.length c) r.ts ∧ Below w.heap.size w w'
theorem tellse_no {w W : World} {R : Told} {n : Int} (hR : R = noTold n) (hb : Below w.heap.size w W) : TellsE w R (.returned (.tuple #[.agg #[.int .i64 0, .slice none 0 0, .int .i64 0], .int .i64 n])) W := by
  subst hR
  exact ⟨none, 0, rfl, Kd.R_nil _ _ _ _ _, hb⟩
theorem R_set3 {W : World} {B g : Nat} {u a b c : Value} {l : List S70} {cs : Array Value} (hS : k70.R 70 W B (fun _ => True) u l) (hx : W.heap[g]? = some (.cells cs 28 (0, 0))) :
    k70.R 70 (((W.setCell ⟨g, 0, none⟩ a).setCell ⟨g, 1, none⟩ b).setCell ⟨g, 2, none⟩ c) B (fun _ => True) u l := by
  have h1 := blk_put hx 0 a rfl
  have h2 := blk_put h1 1 b rfl
  exact Kd.R_set (Kd.R_set (Kd.R_set hS hx (by decide) 0 a) h1 (by decide) 1 b) h2 (by decide) 2 c
theorem tellse_ok {w W : World} {R : Told} {A : Option Addr} {n c : Nat} {v nx : Int} {ts : List S70} (hR : R = ⟨v, ts, nx, 0, 0, 0⟩) (hS : k70.R 70 W w.heap.size (fun _ => True) (.slice A n c) ts) (hb : Below w.heap.size w W) :
    TellsE w R (.returned (.tuple #[.agg #[.int .i64 v, .slice A n c, .int .i64 nx], .int .i64 0])) W := by
  subst hR
  obtain ⟨h0, h1, h2⟩ := Kd.R_reads' hS
  subst h0
  exact ⟨_, _, rfl, hS, hb⟩
structure CrSt (w2 wr : World) (id : Int) (nm_ : ByteArray) (n4 : Int) (cv : Value) (l : List S75) : Prop where
  below : Below w2.heap.size w2 wr
  box : wr.heap[w2.heap.size]? = some (.cells #[.int .i64 id, .string nm_, cv, .slice none 0 0, .int .i64 n4] 70 (0, 0))
  row : k75.R 75 wr w2.heap.size (fun _ => True) cv l
section
variable {w2 wr W W1 : World} {id n4 : Int} {nm_ : ByteArray} {cv cv1 : Value} {l : List S75} {x : S75}
theorem CrSt.step (h : CrSt w2 wr id nm_ n4 cv l) (hb : Below wr.heap.size wr W) : CrSt w2 W id nm_ n4 cv l := ⟨below_then h.below h.below.size hb, blk_below h.box hb, Kd.R_below h.row hb⟩
theorem CrSt.new (w2 : World) (id : Int) (nm_ : ByteArray) (n4 : Int) : CrSt w2 (w2.alloc (.cells #[.int .i64 id, .string nm_, .slice none 0 0, .slice none 0 0, .int .i64 n4] 70)) id nm_ n4 (.slice none 0 0) [] :=
  ⟨below_alloc (Below.refl _ _) _, heap_alloc_new w2 _, Kd.R_nil _ _ _ _ _⟩
theorem CrSt.next (h : CrSt w2 wr id nm_ n4 cv l) (hb : Below w2.heap.size w2 W1) (hg : wr.grownBy W1 cv.ownBlock) (hr : k75.R 75 W1 w2.heap.size (fun _ => True) cv1 (l ++ [x])) : CrSt w2 (W1.setCell ⟨w2.heap.size, 2, none⟩ cv1) id nm_ n4 cv1 (l ++ [x]) := by
  have hx := blk_grown h.box hg (Kd.R_ne h.row h.box (by decide))
  exact ⟨hb.setCell (Nat.le_refl _) _, blk_put hx 2 _ rfl, Kd.R_set hr hx (by decide) 2 _⟩
end
set_option maxRecDepth 100000 in
set_option maxHeartbeats 8000000 in
theorem create_calls (v : Int) (ts : List S70) (nx : Int) (s : S45) (hn : ts.length < 1000) (hw : ∀ t ∈ ts, ∀ c ∈ t.f2, ValWf c.f5)
    (A : Option Addr) (c : Nat) (w : World) (hc : ts.length ≤ c) (g2 : k70.C w A ts.length ts) (cs : List Value) (hs : k45.K w s cs) (hok : StmtOk s) :
    Calls Tryd.prog 29 #[.agg #[.int .i64 v, .slice A ts.length c, .int .i64 nx], .agg cs.toArray] w (TellsE w (createP v ts nx s)) := by
  obtain ⟨A3, c3, A4, c4, A5, c5, A6, c6, A9, c9, rfl, l3, g3, -, -, -, -, -, -, l9, g9⟩ := k45_open hs
  have HC3 := Aside0.mk g3
  have HC9 := Aside0.mk g9
  have HC := Aside0.mk g2
  have hl3 := hok.1
  have hl9 := hok.2.2.1
  obtain ⟨bx, hbx⟩ : ∃ b : Array Value, b = #[.int .i64 v, .slice A ts.length c, .int .i64 nx] := ⟨_, rfl⟩
  obtain ⟨sx, hsx⟩ : ∃ b : Array Value, b = #[.int .i64 s.f0, .string s.f1, .string s.f2, .slice A3 s.f3.length c3, .slice A4 s.f4.length c4, .slice A5 s.f5.length c5, .slice A6 s.f6.length c6, .bool s.f7, .int .i64 s.f8, .slice A9 s.f9.length c9] := ⟨_, rfl⟩
  have HX := Aside0.mk (Bxs.new w bx sx)
  have HM := Lib.hid (fun W (hb : Below w.heap.size w W) => rmay_calls v ts nx hw A c W hc (Kd.C_below g2 hb))
  have HN := Lib.hid (fun w => rname_calls s.f1 w)
  have HI := Lib.hid (show createP v ts nx s = _ by unfold createP; exact rfl)
  obtain ⟨R, hR⟩ : ∃ R, createP v ts nx s = R := ⟨_, rfl⟩
  rw [hR]
  rw [hR] at HI
  rw [hbx, hsx] at HX
  clear hs g2 g3 g9 hR hw
  cases hsch : schB v ts nx with
  | false =>
    have HR := Lib.hid (show R = noTold 3 by rw [HI.out, if_pos hsch])
    rw [hsch] at HM
    clear hsch HI
    go_enter Tryd.func29, Tryd.ntmps29
    go_wp2_with fail
    refine (HM.out _ HX.out.below).mono ?_
    rintro e w1 ⟨rfl, hb1⟩
    have HX1 := Aside0.mk (HX.out.step hb1)
    have f0 := blk_frozen HX1.out.b2 0
    have f1 := blk_frozen HX1.out.b2 1
    have f2 := blk_frozen HX1.out.b2 2
    have c0 := blk_cell (j := 0) (v := .int .i64 0) HX1.out.b2 rfl
    have c1 := blk_cell (j := 1) (v := .slice none 0 0) HX1.out.b2 rfl
    have c2 := blk_cell (j := 2) (v := .int .i64 0) HX1.out.b2 rfl
    clear hb1
    go_wp2
    refine bodyPost_ret (v := .tuple #[.agg #[.int .i64 0, .slice none 0 0, .int .i64 0], .int .i64 3]) (by simp [results, Tryd.results29, go_sem, c0, c1, c2]) rfl (tellse_no HR.out (HX1.out.out _ _ _))
  | true =>
    rw [hsch] at HM
    have HI2 := Lib.hid (HI.out.trans (if_neg (by rw [hsch]; simp)))
    have HB := Lib.hid hsch
    clear hsch HI
    go_enter Tryd.func29, Tryd.ntmps29
    go_wp2_with fail
    refine (HM.out _ HX.out.below).mono ?_
    rintro e w1 ⟨rfl, hb1⟩
    have HX1 := Aside0.mk (HX.out.step hb1)
    have x0 := blk_cell (j := 0) (v := .int .i64 v) HX1.out.b0 rfl
    clear hb1 HX HM
    by_cases hv : 1099511627775 ≤ v
    · have hd : decide (1099511627775 ≤ v) = true := decide_eq_true hv
      have HR := Lib.hid (show R = noTold 4 by rw [HI2.out, if_pos hv])
      have f0 := blk_frozen HX1.out.b2 0
      have f1 := blk_frozen HX1.out.b2 1
      have f2 := blk_frozen HX1.out.b2 2
      have c0 := blk_cell (j := 0) (v := .int .i64 0) HX1.out.b2 rfl
      have c1 := blk_cell (j := 1) (v := .slice none 0 0) HX1.out.b2 rfl
      have c2 := blk_cell (j := 2) (v := .int .i64 0) HX1.out.b2 rfl
      clear hv HI2
      go_wp2
      refine bodyPost_ret (v := .tuple #[.agg #[.int .i64 0, .slice none 0 0, .int .i64 0], .int .i64 4]) (by simp [results, Tryd.results29, go_sem, c0, c1, c2]) rfl (tellse_no HR.out (HX1.out.out _ _ _))
    have hd : decide (1099511627775 ≤ v) = false := decide_eq_false hv
    have HI3 := Lib.hid (HI2.out.trans (if_neg hv))
    have s0 := blk_cell (j := 0) (v := .int .i64 s.f0) HX1.out.b1 rfl
    have s1 := blk_cell (j := 1) (v := .string s.f1) HX1.out.b1 rfl
    have HV := Lib.hid hv
    clear HI2 hv
    by_cases hk5 : ¬ s.f0 = 5
    · have hd5 : (s.f0 != 5) = true := by simpa using hk5
      have HR := Lib.hid (show R = noTold 1 by rw [HI3.out, if_pos hk5])
      have f0 := blk_frozen HX1.out.b2 0
      have f1 := blk_frozen HX1.out.b2 1
      have f2 := blk_frozen HX1.out.b2 2
      have c0 := blk_cell (j := 0) (v := .int .i64 0) HX1.out.b2 rfl
      have c1 := blk_cell (j := 1) (v := .slice none 0 0) HX1.out.b2 rfl
      have c2 := blk_cell (j := 2) (v := .int .i64 0) HX1.out.b2 rfl
      clear hk5 HI3
      go_wp2
      refine bodyPost_ret (v := .tuple #[.agg #[.int .i64 0, .slice none 0 0, .int .i64 0], .int .i64 1]) (by simp [results, Tryd.results29, go_sem, c0, c1, c2]) rfl (tellse_no HR.out (HX1.out.out _ _ _))
    replace hk5 := Decidable.not_not.mp hk5
    have hd5 : (s.f0 != 5) = false := by simpa using hk5
    have HI4 := Lib.hid (HI3.out.trans (if_neg (by simpa using hk5)))
    clear HI3 hk5
    cases hnm : nameB s.f1 with
    | false =>
      have HR := Lib.hid (show R = noTold 3 by rw [HI4.out, if_pos (.inl hnm)])
      rw [hnm] at HN
      clear HI4 hnm
      go_wp2_with fail
      refine (HN.out _).mono ?_
      rintro e w2 ⟨rfl, hb2⟩
      have HX0 := HX1
      clear HX1
      have HX1 := Aside0.mk (HX0.out.step hb2)
      have f0 := blk_frozen HX1.out.b2 0
      have f1 := blk_frozen HX1.out.b2 1
      have f2 := blk_frozen HX1.out.b2 2
      have c0 := blk_cell (j := 0) (v := .int .i64 0) HX1.out.b2 rfl
      have c1 := blk_cell (j := 1) (v := .slice none 0 0) HX1.out.b2 rfl
      have c2 := blk_cell (j := 2) (v := .int .i64 0) HX1.out.b2 rfl
      clear hb2 s0 s1 x0
      go_wp2
      refine bodyPost_ret (v := .tuple #[.agg #[.int .i64 0, .slice none 0 0, .int .i64 0], .int .i64 3]) (by simp [results, Tryd.results29, go_sem, c0, c1, c2]) rfl (tellse_no HR.out (HX1.out.out _ _ _))
    | true =>
      rw [hnm] at HN
      go_wp2_with fail
      refine (HN.out _).mono ?_
      rintro e w2 ⟨rfl, hb2⟩
      have HX0 := HX1
      clear HX1
      have HX1 := Aside0.mk (HX0.out.step hb2)
      clear hb2 s0 s1 x0 HX0 HN
      have s3 := blk_cell (j := 3) (v := .slice A3 s.f3.length c3) HX1.out.b1 rfl
      have s9 := blk_cell (j := 9) (v := .slice A9 s.f9.length c9) HX1.out.b1 rfl
      by_cases hl : ¬ s.f3.length = s.f9.length
      · have hdl : ((s.f3.length : Int) != (s.f9.length : Int)) = true := by rw [bne_iff_ne]; omega
        have HR := Lib.hid (show R = noTold 3 by rw [HI4.out, if_pos (.inr (.inl hl))])
        have f0 := blk_frozen HX1.out.b2 0
        have f1 := blk_frozen HX1.out.b2 1
        have f2 := blk_frozen HX1.out.b2 2
        have c0 := blk_cell (j := 0) (v := .int .i64 0) HX1.out.b2 rfl
        have c1 := blk_cell (j := 1) (v := .slice none 0 0) HX1.out.b2 rfl
        have c2 := blk_cell (j := 2) (v := .int .i64 0) HX1.out.b2 rfl
        clear HI4 hl hnm
        go_wp2
        refine bodyPost_ret (v := .tuple #[.agg #[.int .i64 0, .slice none 0 0, .int .i64 0], .int .i64 3]) (by simp [results, Tryd.results29, go_sem, c0, c1, c2]) rfl (tellse_no HR.out (HX1.out.out _ _ _))
      replace hl := Decidable.not_not.mp hl
      have hdl : ((s.f3.length : Int) != (s.f9.length : Int)) = false := by rw [bne_eq_false_iff_eq]; omega
      by_cases hl1 : s.f3.length < 1
      · have hd1 : decide ((s.f3.length : Int) < 1) = true := decide_eq_true (by omega)
        have HR := Lib.hid (show R = noTold 3 by rw [HI4.out, if_pos (.inr (.inr (.inl hl1)))])
        have f0 := blk_frozen HX1.out.b2 0
        have f1 := blk_frozen HX1.out.b2 1
        have f2 := blk_frozen HX1.out.b2 2
        have c0 := blk_cell (j := 0) (v := .int .i64 0) HX1.out.b2 rfl
        have c1 := blk_cell (j := 1) (v := .slice none 0 0) HX1.out.b2 rfl
        have c2 := blk_cell (j := 2) (v := .int .i64 0) HX1.out.b2 rfl
        clear HI4 hl hl1 hnm
        go_wp2
        refine bodyPost_ret (v := .tuple #[.agg #[.int .i64 0, .slice none 0 0, .int .i64 0], .int .i64 3]) (by simp [results, Tryd.results29, go_sem, c0, c1, c2]) rfl (tellse_no HR.out (HX1.out.out _ _ _))
      have hd1 : decide ((s.f3.length : Int) < 1) = false := decide_eq_false (by omega)
      by_cases hl8 : 8 < s.f3.length
      · have hd8 : decide (8 < (s.f3.length : Int)) = true := decide_eq_true (by omega)
        have HR := Lib.hid (show R = noTold 3 by rw [HI4.out, if_pos (.inr (.inr (.inr hl8)))])
        have f0 := blk_frozen HX1.out.b2 0
        have f1 := blk_frozen HX1.out.b2 1
        have f2 := blk_frozen HX1.out.b2 2
        have c0 := blk_cell (j := 0) (v := .int .i64 0) HX1.out.b2 rfl
        have c1 := blk_cell (j := 1) (v := .slice none 0 0) HX1.out.b2 rfl
        have c2 := blk_cell (j := 2) (v := .int .i64 0) HX1.out.b2 rfl
        clear HI4 hl hl1 hl8 hnm
        go_wp2
        refine bodyPost_ret (v := .tuple #[.agg #[.int .i64 0, .slice none 0 0, .int .i64 0], .int .i64 3]) (by simp [results, Tryd.results29, go_sem, c0, c1, c2]) rfl (tellse_no HR.out (HX1.out.out _ _ _))
      have hd8 : decide (8 < (s.f3.length : Int)) = false := decide_eq_false (by omega)
      have HI5 := Lib.hid (HI4.out.trans (if_neg (show ¬ (nameB s.f1 = false ∨ s.f3.length ≠ s.f9.length ∨ s.f3.length < 1 ∨ 8 < s.f3.length) from fun h => h.elim (fun h => by rw [hnm] at h; cases h) (fun h => h.elim (fun h => h hl) (fun h => h.elim hl1 hl8)))))
      have HLL := Lib.hid hl
      have hlo : 1 ≤ s.f3.length := by omega
      have hhi : s.f3.length ≤ 8 := by omega
      have hnn : 0 ≤ nx ∧ nx < 1099511627776 := by have := HB.out; unfold schB at this; simp only [Bool.and_eq_true, decide_eq_true_eq] at this; exact ⟨this.2.2.1, this.2.2.2.1⟩
      obtain ⟨hn0, hn1⟩ := hnn
      have x2 := blk_cell (j := 2) (v := .int .i64 nx) HX1.out.b0 rfl
      have s1 := blk_cell (j := 1) (v := .string s.f1) HX1.out.b1 rfl
      obtain ⟨id, hid⟩ : ∃ id, mx nx 1 = id := ⟨_, rfl⟩
      have hm : (if nx < 1 then (1 : Int) else nx) = id := hid
      have HID := Lib.hid hid
      have hid0 : 1 ≤ id ∧ id < 1099511627776 := by rw [← hid]; unfold mx; split <;> omega
      clear HI4 hl hl1 hl8 hnm hid
      go_wp2_with fail
      clear hm hdl hd1 hd8 hd hd5 x2 s1
      have HS0 := Aside0.mk (CrSt.new w2 id s.f1 ((s.f3.length : Int) + 1))
      clear s3 s9
      go_loopg [7] s.f3.length (fun gg u7 wr => ∃ j : Nat, ∃ cv : Value, ∃ l : List S75, j ≤ s.f3.length ∧ s.f3.length - j ≤ gg ∧ u7 = .int .i64 j ∧ Aside0 (CrSt w2 wr id s.f1 ((s.f3.length : Int) + 1) cv l) ∧ Aside0 (l.length = j) ∧ Aside0 (badCols s.f3 s.f9 = badCols (s.f3.drop j) (s.f9.drop j)) ∧ Aside0 (newCols 0 s.f3 s.f9 = l ++ newCols j (s.f3.drop j) (s.f9.drop j)))
      case atStart => exact ⟨0, _, [], Nat.zero_le _, by omega, rfl, HS0, ⟨rfl⟩, ⟨by rw [List.drop_zero, List.drop_zero]⟩, ⟨by rw [List.drop_zero, List.drop_zero]; rfl⟩⟩
      case round =>
        clear HS0
        obtain ⟨j, cv, l, hj, hgj, rfl, HS, HJ, HA1, HA2⟩ := hrel
        obtain ⟨Ac, cc, hcv⟩ := Kd.R_slice HS.out.row
        rw [HJ.out] at hcv
        subst hcv
        have hXr := HX1.out.step HS.out.below
        have HXr := Aside0.mk hXr
        have s3 := blk_cell (j := 3) (v := .slice A3 s.f3.length c3) hXr.b1 rfl
        have s9 := blk_cell (j := 9) (v := .slice A9 s.f9.length c9) hXr.b1 rfl
        clear hXr
        by_cases hlt : j < s.f3.length
        · have hltz : (j : Int) < (s.f3.length : Int) := by omega
          have hlt9 : j < s.f9.length := by have := HLL.out; omega
          have hltz9 : (j : Int) < (s.f9.length : Int) := by omega
          obtain ⟨a3, eA3, es⟩ := at_str (Kd.C_below HC3.out HXr.out.below) j hlt
          obtain ⟨a9, eA9, e9⟩ := at_int (Kd.C_below HC9.out HXr.out.below) j hlt9
          cases eA3
          cases eA9
          have hA1 := HA1.out
          have hA2 := HA2.out
          rw [List.drop_eq_getElem_cons hlt, List.drop_eq_getElem_cons hlt9] at hA1 hA2
          generalize s.f3[j] = nme at es hA1 hA2
          generalize s.f9[j] = kd at e9 hA1 hA2
          have hN := Lib.hid (fun w => rname_calls nme w)
          have HE9 := Aside0.mk e9
          have HES := Aside0.mk es
          clear HA1 HA2
          cases hnn : nameB nme with
          | false =>
            rw [hnn] at hN
            have HR := Lib.hid (show R = noTold 3 by rw [HI5.out, if_pos (by rw [hA1]; unfold badCols; rw [hnn]; rfl)])
            clear hA1 hA2 hnn e9
            go_wp2_with fail
            refine (hN.out _).mono ?_
            rintro e w4 ⟨rfl, hb4⟩
            have HX0 := HX1
            clear HX1
            have HX1 := Aside0.mk (HXr.out.step hb4)
            have f0 := blk_frozen HX1.out.b2 0
            have f1 := blk_frozen HX1.out.b2 1
            have f2 := blk_frozen HX1.out.b2 2
            have c0 := blk_cell (j := 0) (v := .int .i64 0) HX1.out.b2 rfl
            have c1 := blk_cell (j := 1) (v := .slice none 0 0) HX1.out.b2 rfl
            have c2 := blk_cell (j := 2) (v := .int .i64 0) HX1.out.b2 rfl
            clear hb4 s3 s9 es
            go_wp2
            refine bodyPost_ret (v := .tuple #[.agg #[.int .i64 0, .slice none 0 0, .int .i64 0], .int .i64 3]) (by simp [results, Tryd.results29, go_sem, c0, c1, c2]) rfl (tellse_no HR.out (HX1.out.out _ _ _))
          | true =>
            rw [hnn] at hN
            go_wp2_with fail
            refine (hN.out _).mono ?_
            rintro e w4 ⟨rfl, hb4⟩
            have HX4 := Aside0.mk (HXr.out.step hb4)
            have HS4 := Aside0.mk (HS.out.step hb4)
            have s3' := blk_cell (j := 3) (v := .slice (some a3) s.f3.length c3) HX4.out.b1 rfl
            have s9' := blk_cell (j := 9) (v := .slice (some a9) s.f9.length c9) HX4.out.b1 rfl
            have e9' := pw_cell_below hb4 HE9.out
            have es' := pw_cell_below hb4 HES.out
            clear s3 s9 e9 es hb4 hN
            by_cases hk1 : kd < 1
            · have hd1 : decide (kd < 1) = true := decide_eq_true hk1
              have HR := Lib.hid (show R = noTold 3 by rw [HI5.out, if_pos (by rw [hA1]; unfold badCols; rw [hnn, hd1]; rfl)])
              have HX0 := HX1
              clear HX1
              have HX1 := HX4
              have f0 := blk_frozen HX1.out.b2 0
              have f1 := blk_frozen HX1.out.b2 1
              have f2 := blk_frozen HX1.out.b2 2
              have c0 := blk_cell (j := 0) (v := .int .i64 0) HX1.out.b2 rfl
              have c1 := blk_cell (j := 1) (v := .slice none 0 0) HX1.out.b2 rfl
              have c2 := blk_cell (j := 2) (v := .int .i64 0) HX1.out.b2 rfl
              clear hk1 hA1 hA2 hnn
              go_wp2
              refine bodyPost_ret (v := .tuple #[.agg #[.int .i64 0, .slice none 0 0, .int .i64 0], .int .i64 3]) (by simp [results, Tryd.results29, go_sem, c0, c1, c2]) rfl (tellse_no HR.out (HX1.out.out _ _ _))
            have hd1 : decide (kd < 1) = false := decide_eq_false hk1
            by_cases hk5 : 5 < kd
            · have hd5 : decide (5 < kd) = true := decide_eq_true hk5
              have HR := Lib.hid (show R = noTold 3 by rw [HI5.out, if_pos (by rw [hA1]; unfold badCols; rw [hnn, hd1, hd5]; rfl)])
              have HX0 := HX1
              clear HX1
              have HX1 := HX4
              have f0 := blk_frozen HX1.out.b2 0
              have f1 := blk_frozen HX1.out.b2 1
              have f2 := blk_frozen HX1.out.b2 2
              have c0 := blk_cell (j := 0) (v := .int .i64 0) HX1.out.b2 rfl
              have c1 := blk_cell (j := 1) (v := .slice none 0 0) HX1.out.b2 rfl
              have c2 := blk_cell (j := 2) (v := .int .i64 0) HX1.out.b2 rfl
              clear hk1 hk5 hA1 hA2 hnn
              go_wp2
              refine bodyPost_ret (v := .tuple #[.agg #[.int .i64 0, .slice none 0 0, .int .i64 0], .int .i64 3]) (by simp [results, Tryd.results29, go_sem, c0, c1, c2]) rfl (tellse_no HR.out (HX1.out.out _ _ _))
            have hd5 : decide (5 < kd) = false := decide_eq_false hk5
            have HA1 := Aside0.mk (show badCols s.f3 s.f9 = badCols (s.f3.drop (j + 1)) (s.f9.drop (j + 1)) by rw [hA1]; conv => lhs; unfold badCols; rw [hnn, hd1, hd5, Bool.not_true, Bool.false_or, Bool.false_or, Bool.false_or])
            have HA2 := Aside0.mk (show newCols 0 s.f3 s.f9 = (l ++ [⟨(j : Int) + 1, nme, kd, 4, if j = 0 then 4 else 0, z73⟩]) ++ newCols (j + 1) (s.f3.drop (j + 1)) (s.f9.drop (j + 1)) by rw [hA2, List.append_assoc]; rfl)
            have hq1 : w2.heap.size < w4.heap.size := lt_of_block HS4.out.box
            have hq2 : w.heap.size + 1 < w4.heap.size := lt_of_block HX4.out.b1
            have hq3 : (a3.add j).block < w4.heap.size := World.block_lt_of_cell? w4 _ es'
            have hq4 : (a9.add j).block < w4.heap.size := World.block_lt_of_cell? w4 _ e9'
            clear hA1 hA2 hnn hk1 hk5
            go_wp2_with fail
            by_cases j0 : j = 0
            · have hj0 : ((j : Int) == 0) = true := by simpa using j0
              have HA2' := Lib.hid HA2.out
              rw [if_pos j0] at HA2'
              clear j0
              go_region
              have hb5 : Below w4.heap.size w4 (w4.alloc (.cells #[.int .i64 ((j : Int) + 1), .string nme, .int .i64 kd, .int .i64 4, .int .i64 0, .int .i64 0, .int .i64 0, .int .u64 0, .string ⟨#[]⟩] 75)).drew := below_drew (below_alloc (Below.refl _ _) _)
              have hx5 : (w4.alloc (.cells #[.int .i64 ((j : Int) + 1), .string nme, .int .i64 kd, .int .i64 4, .int .i64 0, .int .i64 0, .int .i64 0, .int .u64 0, .string ⟨#[]⟩] 75)).drew.heap[w4.heap.size]? = _ := heap_alloc_new w4 _
              generalize (w4.alloc (.cells #[.int .i64 ((j : Int) + 1), .string nme, .int .i64 kd, .int .i64 4, .int .i64 0, .int .i64 0, .int .i64 0, .int .u64 0, .string ⟨#[]⟩] 75)).drew = w5 at hb5 hx5 ⊢
              have k0 := blk_cell (j := 0) (v := .int .i64 ((j : Int) + 1)) hx5 rfl
              have k1 := blk_cell (j := 1) (v := .string nme) hx5 rfl
              have k2 := blk_cell (j := 2) (v := .int .i64 kd) hx5 rfl
              have k3 := blk_cell (j := 3) (v := .int .i64 4) hx5 rfl
              have k4 := blk_cell (j := 4) (v := .int .i64 0) hx5 rfl
              have k5 := blk_cell (j := 5) (v := .int .i64 0) hx5 rfl
              have k6 := blk_cell (j := 6) (v := .int .i64 0) hx5 rfl
              have k7 := blk_cell (j := 7) (v := .int .u64 0) hx5 rfl
              have k8 := blk_cell (j := 8) (v := .string ⟨#[]⟩) hx5 rfl
              have k4f := blk_frozen hx5 4
              have hb6 := hb5.setCell (p := ⟨w4.heap.size, 4, none⟩) (Nat.le_refl _) (.int .i64 4)
              have HSZ := Lib.hid (show (w5.setCell ⟨w4.heap.size, 4, none⟩ (.int .i64 4)).heap.size = w5.heap.size by simp)
              have HS5 := Aside0.mk (HS4.out.step hb6)
              have hS5 := HS4.out.step hb5
              have d2 := blk_cell (j := 2) (v := .slice Ac j cc) hS5.box rfl
              have hne : w2.heap.size ≠ w4.heap.size := blk_ne hS5.box hx5 (by decide)
              clear hq1 hq2 hq3 hq4 es' e9' s3' s9' hb5 hx5 hS5 hb6
              go_wp2_with ((with_reducible refine gate_builtin (b := .append) (xs := #[.tmp 106, .tmp 108]) rfl ?_); at_builtin; refine Kd.R_append k75 (w0 := w2) w2.heap.size rfl (.tmp 106) (.tmp 108) 67 75 (.agg #[(.int .i64 0), (.string ⟨#[]⟩), (.int .i64 0), (.int .i64 0), (.int .i64 0), (.int .i64 0), (.int .i64 0), (.int .u64 0), (.string ⟨#[]⟩)]) 88 rfl Tryd.underlying67 info75 rfl (by decide) (by omega) (.slice Ac j cc) l (⟨(j : Int) + 1, nme, kd, 4, 4, z73⟩ : S75) [.int .i64 ((j : Int) + 1), .string nme, .int .i64 kd, .int .i64 4, .int .i64 4, .int .i64 0, .int .i64 0, .int .u64 0, .string ⟨#[]⟩] (fun _ => True) (fun _ => False) rfl ?aX (k75_mkM _ _ _ _) (fun _ h => h.elim) (fun _ _ => trivial) HS5.out.row HS5.out.below HS5.out.below.size (by rw [HJ.out]; omega) ?_; (case aX => rw [HSZ.out]; rfl); intro v6 w6 hr hb7 hg6 hat6; obtain ⟨A6, c6, h6⟩ := Kd.R_slice hr; rw [show (l ++ [(⟨(j : Int) + 1, nme, kd, 4, 4, z73⟩ : S75)]).length = j + 1 by rw [List.length_append, HJ.out]; rfl] at h6; subst h6; have hx6 := blk_grown HS5.out.box hg6 (Kd.R_ne HS5.out.row HS5.out.box (by decide)); have HF := Aside0.mk (HS5.out.next hb7 hg6 hr); have d6 := blk_cell (j := 2) (v := .slice Ac j cc) hx6 rfl; have f6 := blk_frozen hx6 2; clear hr hb7 hg6 hat6 hx6 k0 k1 k2 k3 k4 k5 k6 k7 k8 d2)
              go_roundg (s.f3.length - (j + 1))
              case measure => omega
              case rel => exact ⟨j + 1, _, l ++ [⟨(j : Int) + 1, nme, kd, 4, 4, z73⟩], by omega, by omega, by go_num, HF, ⟨by rw [List.length_append, HJ.out]; rfl⟩, HA1, ⟨HA2'.out⟩⟩
            · have hj0 : ((j : Int) == 0) = false := by simpa using j0
              have HA2' := Lib.hid HA2.out
              rw [if_neg j0] at HA2'
              clear j0
              go_region
              have hb5 : Below w4.heap.size w4 (w4.alloc (.cells #[.int .i64 ((j : Int) + 1), .string nme, .int .i64 kd, .int .i64 4, .int .i64 0, .int .i64 0, .int .i64 0, .int .u64 0, .string ⟨#[]⟩] 75)).drew := below_drew (below_alloc (Below.refl _ _) _)
              have hx5 : (w4.alloc (.cells #[.int .i64 ((j : Int) + 1), .string nme, .int .i64 kd, .int .i64 4, .int .i64 0, .int .i64 0, .int .i64 0, .int .u64 0, .string ⟨#[]⟩] 75)).drew.heap[w4.heap.size]? = _ := heap_alloc_new w4 _
              generalize (w4.alloc (.cells #[.int .i64 ((j : Int) + 1), .string nme, .int .i64 kd, .int .i64 4, .int .i64 0, .int .i64 0, .int .i64 0, .int .u64 0, .string ⟨#[]⟩] 75)).drew = w5 at hb5 hx5 ⊢
              have k0 := blk_cell (j := 0) (v := .int .i64 ((j : Int) + 1)) hx5 rfl
              have k1 := blk_cell (j := 1) (v := .string nme) hx5 rfl
              have k2 := blk_cell (j := 2) (v := .int .i64 kd) hx5 rfl
              have k3 := blk_cell (j := 3) (v := .int .i64 4) hx5 rfl
              have k4 := blk_cell (j := 4) (v := .int .i64 0) hx5 rfl
              have k5 := blk_cell (j := 5) (v := .int .i64 0) hx5 rfl
              have k6 := blk_cell (j := 6) (v := .int .i64 0) hx5 rfl
              have k7 := blk_cell (j := 7) (v := .int .u64 0) hx5 rfl
              have k8 := blk_cell (j := 8) (v := .string ⟨#[]⟩) hx5 rfl
              have HS5 := Aside0.mk (HS4.out.step hb5)
              have hS5 := HS4.out.step hb5
              have d2 := blk_cell (j := 2) (v := .slice Ac j cc) hS5.box rfl
              have hne : w2.heap.size ≠ w4.heap.size := blk_ne hS5.box hx5 (by decide)
              clear hq1 hq2 hq3 hq4 es' e9' s3' s9' hb5 hx5 hS5
              go_wp2_with ((with_reducible refine gate_builtin (b := .append) (xs := #[.tmp 106, .tmp 108]) rfl ?_); at_builtin; refine Kd.R_append k75 (w0 := w2) w2.heap.size rfl (.tmp 106) (.tmp 108) 67 75 (.agg #[(.int .i64 0), (.string ⟨#[]⟩), (.int .i64 0), (.int .i64 0), (.int .i64 0), (.int .i64 0), (.int .i64 0), (.int .u64 0), (.string ⟨#[]⟩)]) 88 rfl Tryd.underlying67 info75 rfl (by decide) (by omega) (.slice Ac j cc) l (⟨(j : Int) + 1, nme, kd, 4, 0, z73⟩ : S75) [.int .i64 ((j : Int) + 1), .string nme, .int .i64 kd, .int .i64 4, .int .i64 0, .int .i64 0, .int .i64 0, .int .u64 0, .string ⟨#[]⟩] (fun _ => True) (fun _ => False) rfl rfl (k75_mkM _ _ _ _) (fun _ h => h.elim) (fun _ _ => trivial) HS5.out.row HS5.out.below HS5.out.below.size (by rw [HJ.out]; omega) ?_; intro v6 w6 hr hb7 hg6 hat6; obtain ⟨A6, c6, h6⟩ := Kd.R_slice hr; rw [show (l ++ [(⟨(j : Int) + 1, nme, kd, 4, 0, z73⟩ : S75)]).length = j + 1 by rw [List.length_append, HJ.out]; rfl] at h6; subst h6; have hx6 := blk_grown HS5.out.box hg6 (Kd.R_ne HS5.out.row HS5.out.box (by decide)); have HF := Aside0.mk (HS5.out.next hb7 hg6 hr); have d6 := blk_cell (j := 2) (v := .slice Ac j cc) hx6 rfl; have f6 := blk_frozen hx6 2; clear hr hb7 hg6 hat6 hx6 k0 k1 k2 k3 k4 k5 k6 k7 k8 d2)
              go_roundg (s.f3.length - (j + 1))
              case measure => omega
              case rel => exact ⟨j + 1, _, l ++ [⟨(j : Int) + 1, nme, kd, 4, 0, z73⟩], by omega, by omega, by go_num, HF, ⟨by rw [List.length_append, HJ.out]; rfl⟩, HA1, ⟨HA2'.out⟩⟩
        · have hltz : ¬ (j : Int) < (s.f3.length : Int) := by omega
          have hA1 : badCols s.f3 s.f9 = false := by rw [HA1.out, List.drop_eq_nil_of_le (by omega)]; unfold badCols; rfl
          have hA2 : newCols 0 s.f3 s.f9 = l := by rw [HA2.out, List.drop_eq_nil_of_le (by omega)]; unfold newCols; exact List.append_nil l
          have HI6 := Lib.hid (HI5.out.trans (if_neg (by rw [hA1]; simp)))
          have HNC := Lib.hid hA2
          have HT := Lib.hid (fun W (hb : Below w.heap.size w W) => rtabn_calls v ts nx s.f1 hn A c W hc (Kd.C_below HC.out hb))
          obtain ⟨ix, hix⟩ : ∃ ix, idxL (tName s.f1) ts 0 = ix := ⟨_, rfl⟩
          have hia := idxL_at (tName s.f1) ts
          rw [hix] at HT HI6 hia
          have x0 := blk_cell (j := 0) (v := .int .i64 v) HXr.out.b0 rfl
          have x1 := blk_cell (j := 1) (v := .slice A ts.length c) HXr.out.b0 rfl
          have x2 := blk_cell (j := 2) (v := .int .i64 nx) HXr.out.b0 rfl
          have s1 := blk_cell (j := 1) (v := .string s.f1) HXr.out.b1 rfl
          clear hA1 hA2 HA1 HA2 HI5 hix s9
          go_wp2_with fail
          refine (HT.out _ HXr.out.below).mono ?_
          rintro e w5 ⟨rfl, hb5⟩
          have HX5 := Aside0.mk (HXr.out.step hb5)
          have HS5 := Aside0.mk (HS.out.step hb5)
          clear x0 x1 x2 s1 s3 hb5 HT
          rcases Classical.em (∃ k : Nat, k < ts.length ∧ ix = (k : Int)) with ⟨k, hk, rfl⟩ | hno
          · have HR := Lib.hid (show R = noTold 6 by rw [HI6.out, if_pos (.inl (by omega))])
            have hk0 : (0 : Int) ≤ (k : Int) := by omega
            have HX0 := HX1
            clear HX1
            have HX1 := HX5
            have f0 := blk_frozen HX1.out.b2 0
            have f1 := blk_frozen HX1.out.b2 1
            have f2 := blk_frozen HX1.out.b2 2
            have c0 := blk_cell (j := 0) (v := .int .i64 0) HX1.out.b2 rfl
            have c1 := blk_cell (j := 1) (v := .slice none 0 0) HX1.out.b2 rfl
            have c2 := blk_cell (j := 2) (v := .int .i64 0) HX1.out.b2 rfl
            clear HI6 hia
            go_wp2
            refine bodyPost_ret (v := .tuple #[.agg #[.int .i64 0, .slice none 0 0, .int .i64 0], .int .i64 6]) (by simp [results, Tryd.results29, go_sem, c0, c1, c2]) rfl (tellse_no HR.out (HX1.out.out _ _ _))
          obtain rfl : ix = -1 := hia.elim (fun h => h) (fun ⟨k, hk, h, _⟩ => absurd ⟨k, hk, h⟩ hno)
          have s3 := blk_cell (j := 3) (v := .slice A3 s.f3.length c3) HX5.out.b1 rfl
          clear hno hia
          have HTW := Lib.hid (fun W (hb : Below w.heap.size w W) => rtwice_calls s.f3 (by omega) A3 c3 W l3 (Kd.C_below HC3.out hb))
          go_wp2_with fail
          refine (HTW.out _ HX5.out.below).mono ?_
          rintro e w6 ⟨rfl, hb6⟩
          have HX6 := Aside0.mk (HX5.out.step hb6)
          have HS6 := Aside0.mk (HS5.out.step hb6)
          clear hb6 s3 HTW
          cases htw : twiceB [] s.f3 with
          | true =>
            have HR := Lib.hid (show R = noTold 6 by rw [HI6.out, if_pos (.inr htw)])
            have HX0 := HX1
            clear HX1
            have HX1 := HX6
            have f0 := blk_frozen HX1.out.b2 0
            have f1 := blk_frozen HX1.out.b2 1
            have f2 := blk_frozen HX1.out.b2 2
            have c0 := blk_cell (j := 0) (v := .int .i64 0) HX1.out.b2 rfl
            have c1 := blk_cell (j := 1) (v := .slice none 0 0) HX1.out.b2 rfl
            have c2 := blk_cell (j := 2) (v := .int .i64 0) HX1.out.b2 rfl
            clear HI6 htw
            go_wp2
            refine bodyPost_ret (v := .tuple #[.agg #[.int .i64 0, .slice none 0 0, .int .i64 0], .int .i64 6]) (by simp [results, Tryd.results29, go_sem, c0, c1, c2]) rfl (tellse_no HR.out (HX1.out.out _ _ _))
          | false =>
            have HI7 := Lib.hid (HI6.out.trans (if_neg (show ¬ ((0 : Int) ≤ -1 ∨ twiceB [] s.f3 = true) from fun h => h.elim (by omega) (fun h => by rw [htw] at h; cases h))))
            have x1 := blk_cell (j := 1) (v := .slice A ts.length c) HX6.out.b0 rfl
            have x2 := blk_cell (j := 2) (v := .int .i64 nx) HX6.out.b0 rfl
            clear HI6 htw
            by_cases h4 : 4 ≤ ts.length
            · have hd4 : decide ((4 : Int) ≤ (ts.length : Int)) = true := decide_eq_true (by omega)
              have HR := Lib.hid (show R = noTold 4 by rw [HI7.out, if_pos (.inl h4)])
              have HX0 := HX1
              clear HX1
              have HX1 := HX6
              have f0 := blk_frozen HX1.out.b2 0
              have f1 := blk_frozen HX1.out.b2 1
              have f2 := blk_frozen HX1.out.b2 2
              have c0 := blk_cell (j := 0) (v := .int .i64 0) HX1.out.b2 rfl
              have c1 := blk_cell (j := 1) (v := .slice none 0 0) HX1.out.b2 rfl
              have c2 := blk_cell (j := 2) (v := .int .i64 0) HX1.out.b2 rfl
              clear HI7 h4
              go_wp2
              refine bodyPost_ret (v := .tuple #[.agg #[.int .i64 0, .slice none 0 0, .int .i64 0], .int .i64 4]) (by simp [results, Tryd.results29, go_sem, c0, c1, c2]) rfl (tellse_no HR.out (HX1.out.out _ _ _))
            have hd4 : decide ((4 : Int) ≤ (ts.length : Int)) = false := decide_eq_false (by omega)
            by_cases h6 : 60000 ≤ nx
            · have hd6 : decide (60000 ≤ nx) = true := decide_eq_true h6
              have HR := Lib.hid (show R = noTold 4 by rw [HI7.out, if_pos (.inr h6)])
              have HX0 := HX1
              clear HX1
              have HX1 := HX6
              have f0 := blk_frozen HX1.out.b2 0
              have f1 := blk_frozen HX1.out.b2 1
              have f2 := blk_frozen HX1.out.b2 2
              have c0 := blk_cell (j := 0) (v := .int .i64 0) HX1.out.b2 rfl
              have c1 := blk_cell (j := 1) (v := .slice none 0 0) HX1.out.b2 rfl
              have c2 := blk_cell (j := 2) (v := .int .i64 0) HX1.out.b2 rfl
              clear HI7 h4 h6
              go_wp2
              refine bodyPost_ret (v := .tuple #[.agg #[.int .i64 0, .slice none 0 0, .int .i64 0], .int .i64 4]) (by simp [results, Tryd.results29, go_sem, c0, c1, c2]) rfl (tellse_no HR.out (HX1.out.out _ _ _))
            have hd6 : decide (60000 ≤ nx) = false := decide_eq_false h6
            have HR := Lib.hid (HI7.out.trans (if_neg (show ¬ (4 ≤ ts.length ∨ 60000 ≤ nx) from fun h => h.elim h4 h6)))
            have x0 := blk_cell (j := 0) (v := .int .i64 v) HX6.out.b0 rfl
            have hv1 : v < 1099511627775 := by have := HV.out; omega
            have hv0 : 0 ≤ v := by have := HB.out; unfold schB at this; simp only [Bool.and_eq_true, decide_eq_true_eq] at this; exact this.1
            have hlts : ts.length < 4 := by omega
            clear HI7 h4 h6
            go_wp2_with fail
            refine (copy_calls v ts nx (schB_small HB.out) A c w6 hc (Kd.C_below HC.out HX6.out.below)).mono ?_
            rintro e w7 ⟨u, rfl, hS, hb7⟩
            have HU := Aside0.mk (Kd.S_R (Kd.S_lower hS HX6.out.below.size))
            have HX7 := Aside0.mk (HX6.out.step hb7)
            have HS7 := Aside0.mk (HS6.out.step hb7)
            obtain ⟨hid1, hid2⟩ := hid0
            obtain ⟨Au, cu, hu⟩ := Kd.S_slice hS
            subst hu
            clear hS hb7 x0 x1 x2 hd4 hd6
            have z0 := blk_cell (j := 0) (v := .int .i64 id) HS7.out.box rfl
            have z1 := blk_cell (j := 1) (v := .string s.f1) HS7.out.box rfl
            have z2 := blk_cell (j := 2) (v := .slice Ac j cc) HS7.out.box rfl
            have z3 := blk_cell (j := 3) (v := .slice none 0 0) HS7.out.box rfl
            have z4 := blk_cell (j := 4) (v := .int .i64 ((s.f3.length : Int) + 1)) HS7.out.box rfl
            have hq1 : w2.heap.size < w7.heap.size := lt_of_block HS7.out.box
            have HW8 := Aside0.mk (below_alloc (Below.refl _ w7) (.cells #[.int .i64 (v + 1), .slice Au ts.length cu, .int .i64 (id + 1)] 28))
            have HU8 := Aside0.mk (Kd.R_below HU.out HW8.out)
            have HS8 := Aside0.mk (HS7.out.step HW8.out)
            have HX8 := Aside0.mk (HX7.out.step HW8.out)
            have HY8 := Aside0.mk (heap_alloc_new w7 (.cells #[.int .i64 (v + 1), .slice Au ts.length cu, .int .i64 (id + 1)] 28))
            have hq2 : w.heap.size + 1 + 1 < w7.heap.size := lt_of_block HX7.out.b2
            have HSZ8 := Lib.hid (show (w7.alloc (.cells #[.int .i64 (v + 1), .slice Au ts.length cu, .int .i64 (id + 1)] 28)).heap.size = w7.heap.size + 1 by simp)
            have HCL := Aside0.mk (Kd.R_apart' (Kd.R_lower HS8.out.row HX1.out.below.size) (Kd.R_typed HU8.out) (by decide))
            go_wp2_with ((with_reducible refine gate_builtin (b := .append) (xs := #[.tmp 143, .tmp 145]) rfl ?_); at_builtin; refine Kd.R_append k70 (w0 := w) w.heap.size rfl (.tmp 143) (.tmp 145) 26 70 (.agg #[(.int .i64 0), (.string ⟨#[]⟩), (.slice none 0 0), (.slice none 0 0), (.int .i64 0)]) 80 rfl Tryd.underlying26 info70 rfl (by decide) (by omega) (.slice Au ts.length cu) ts (⟨id, s.f1, l, [], (s.f3.length : Int) + 1⟩ : S70) [.int .i64 id, .string s.f1, .slice Ac j cc, .slice none 0 0, .int .i64 ((s.f3.length : Int) + 1)] (fun _ => True) (fun k => True ∧ some k ≠ (Value.slice Au ts.length cu).ownBlock) rfl ?aX (k70_mkM _ _ _ (⟨id, s.f1, l, [], (s.f3.length : Int) + 1⟩ : S70) HCL.out (Kd.R_nil _ _ _ _ _)) (fun _ hk => hk) (fun _ _ => trivial) HU8.out HX8.out.below HX8.out.below.size (by omega) ?_; (case aX => rw [HSZ8.out]; rfl); intro v9 w9 hr hb9 hg9 hat9; obtain ⟨A9', c9', h9⟩ := Kd.R_slice hr; rw [show (ts ++ [(⟨id, s.f1, l, [], (s.f3.length : Int) + 1⟩ : S70)]).length = ts.length + 1 by simp] at h9; subst h9; have HR9 := Aside0.mk hr; have hne9 : ∀ {g : Nat} {cs : Array Value}, (w7.alloc (.cells #[.int .i64 (v + 1), .slice Au ts.length cu, .int .i64 (id + 1)] 28)).heap[g]? = some (.cells cs 28 (0, 0)) → some g ≠ (Value.slice Au ts.length cu).ownBlock := fun hx => Kd.R_ne HU8.out hx (by decide); have HY9 := Aside0.mk (blk_grown HY8.out hg9 (hne9 HY8.out)); have HZ9 := Aside0.mk (blk_grown HX8.out.b2 hg9 (hne9 HX8.out.b2)); have HB9 := Aside0.mk hb9; have y0 := blk_cell (j := 0) (v := .int .i64 (v + 1)) HY9.out rfl; have y1 := blk_cell (j := 1) (v := .slice Au ts.length cu) HY9.out rfl; have y2 := blk_cell (j := 2) (v := .int .i64 (id + 1)) HY9.out rfl; have yf := blk_frozen HY9.out 1; have f0 := blk_frozen HZ9.out 0; have f1 := blk_frozen HZ9.out 1; have f2 := blk_frozen HZ9.out 2; have c0 := blk_cell (j := 0) (v := .int .i64 0) HZ9.out rfl; have c1 := blk_cell (j := 1) (v := .slice none 0 0) HZ9.out rfl; have c2 := blk_cell (j := 2) (v := .int .i64 0) HZ9.out rfl; have hq3 : w7.heap.size ≠ w.heap.size + 1 + 1 := (by omega); clear hr hb9 hg9 hat9 hne9 z0 z1 z2 z3 z4)
            refine bodyPost_ret (v := .tuple #[.agg #[.int .i64 (v + 1), .slice A9' (ts.length + 1) c9', .int .i64 (id + 1)], .int .i64 0]) (by simp [results, Tryd.results29, go_sem, c0, c1, c2, y0, y1, y2]) rfl ?_
            have r1 := Kd.R_set HR9.out HY9.out (by decide) 1 (.slice A9' (ts.length + 1) c9')
            have r2 := blk_far HZ9.out (p := ⟨w7.heap.size, 1, none⟩) (show w.heap.size + 1 + 1 ≠ w7.heap.size by omega) (.slice A9' (ts.length + 1) c9')
            have hlw : w.heap.size ≤ w.heap.size + 1 + 1 := by omega
            have hlw7 : w.heap.size ≤ w7.heap.size := by omega
            exact tellse_ok (by rw [HR.out, HNC.out, HID.out]) (R_set3 r1 r2) ((((HB9.out.setCell (p := ⟨w7.heap.size, 1, none⟩) hlw7 _).setCell (p := ⟨w.heap.size + 1 + 1, 0, none⟩) hlw _).setCell (p := ⟨w.heap.size + 1 + 1, 1, none⟩) hlw _).setCell (p := ⟨w.heap.size + 1 + 1, 2, none⟩) hlw _)
end Go.Proofs.YtjgomlcdmpcoaaaDoor.H
namespace Go.Proofs.YtjgomlcdmpcoaaaDoor.H
open Go.RowKit Go.Proofs.YtjgomlcdmpcoaaaDoorW.PrintWords Go.Proofs.YtjgomlcdmpcoaaaDoorW.PrintLast Go.Proofs.YtjgomlcdmpcoaaaDoorW.PrintMore
open Go.Proofs.YtjgomlcdmpcoaaaDoor.D Go.Proofs.YtjgomlcdmpcoaaaDoor
set_option linter.unusedVariables false
set_option linter.unusedSimpArgs false
def turnI (t : S70) (k : Nat) (st : Int) : S70 := if st = 0 then ⟨t.f0, t.f1, t.f2, t.f3.eraseIdx k, t.f4⟩ else ⟨t.f0, t.f1, t.f2, t.f3.set k ⟨(rd_T98 t.f3 k).f0, (rd_T98 t.f3 k).f1, (rd_T98 t.f3 k).f2, (rd_T98 t.f3 k).f3, st⟩, t.f4⟩
def turnC (t : S70) (k : Nat) (st : Int) : S70 := if st = 0 then ⟨t.f0, t.f1, t.f2.eraseIdx k, t.f3, t.f4⟩ else ⟨t.f0, t.f1, t.f2.set k ⟨(rd_T75 t.f2 k).f0, (rd_T75 t.f2 k).f1, (rd_T75 t.f2 k).f2, st, (rd_T75 t.f2 k).f4, (rd_T75 t.f2 k).f5⟩, t.f3, t.f4⟩
def turnN (t : S70) (k : Nat) (st : Int) : S70 := ⟨t.f0, t.f1, t.f2.set k ⟨(rd_T75 t.f2 k).f0, (rd_T75 t.f2 k).f1, (rd_T75 t.f2 k).f2, (rd_T75 t.f2 k).f3, st, (rd_T75 t.f2 k).f5⟩, t.f3, t.f4⟩
def turnP (t : S70) (kind elem by_ : Int) : S70 :=
  if kind = 6 ∨ kind = 7 then turnI t (idxL (xId elem) t.f3 0).toNat (elemI t kind elem + by_)
  else if kind = 8 ∨ kind = 9 then turnC t (idxL (cId elem) t.f2 0).toNat (elemI t kind elem + by_)
  else turnN t (idxL (cId elem) t.f2 0).toNat (elemI t kind elem + by_)
end Go.Proofs.YtjgomlcdmpcoaaaDoor.H
