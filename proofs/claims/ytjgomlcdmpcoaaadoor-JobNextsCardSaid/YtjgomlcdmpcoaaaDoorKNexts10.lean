/- Own texts of this session, packed by its program wip/pp/pack.py: lemmas and walks of functions. -/
import Derived.Test.YtjgomlcdmpcoaaaDoorKNexts8
import Derived.Test.YtjgomlcdmpcoaaaDoorKNexts9
namespace Go.Proofs.YtjgomlcdmpcoaaaDoor.H
open Go.RowKit Go.Proofs.YtjgomlcdmpcoaaaDoorW.PrintWords Go.Proofs.YtjgomlcdmpcoaaaDoorW.PrintLast Go.Proofs.YtjgomlcdmpcoaaaDoorW.PrintMore
open Go.Proofs.YtjgomlcdmpcoaaaDoor.D Go.Proofs.YtjgomlcdmpcoaaaDoor
attribute [local go_sem] max2_int min2_int max_two min_two max_three min_three max_four min_four
set_option linter.unusedVariables false
set_option linter.unusedSimpArgs false
def newCols : Nat → List ByteArray → List Int → List S75
  | i, n :: ns, k :: ks => ⟨(i : Int) + 1, n, k, 4, if i = 0 then 4 else 0, z73⟩ :: newCols (i + 1) ns ks
  | _, _, _ => []
def badCols : List ByteArray → List Int → Bool
  | n :: ns, k :: ks => (!nameB n || (decide (k < 1) || decide (5 < k))) || badCols ns ks
  | _, _ => false
def createP (v : Int) (ts : List S70) (nx : Int) (s : S45) : Told :=
  if schB v ts nx = false then noTold 3
  else if 1099511627775 ≤ v then noTold 4
  else if s.f0 ≠ 5 then noTold 1
  else if nameB s.f1 = false ∨ s.f3.length ≠ s.f9.length ∨ s.f3.length < 1 ∨ 8 < s.f3.length then noTold 3
  else if badCols s.f3 s.f9 = true then noTold 3
  else if 0 ≤ idxL (tName s.f1) ts 0 ∨ twiceB [] s.f3 = true then noTold 6
  else if 4 ≤ ts.length ∨ 60000 ≤ nx then noTold 4
  else ⟨v + 1, ts ++ [⟨mx nx 1, s.f1, newCols 0 s.f3 s.f9, [], (s.f3.length : Int) + 1⟩], mx nx 1 + 1, 0, 0, 0⟩
def TellsE (w : World) (r : Told) (e : Ending) (w' : World) : Prop :=
  ∃ A c, e = .returned (.tuple #[.agg #[.int .i64 r.v, .slice A r.ts.length c, .int .i64 r.nx], .int .i64 r.err]) ∧ k70.R 70 w' w.heap.size (fun _ => True) (.slice A r.ts.length c) r.ts ∧ Below w.heap.size w w'
theorem tellse_no {w W : World} {R : Told} {n : Int} (hR : R = noTold n) (hb : Below w.heap.size w W) : TellsE w R (.returned (.tuple #[.agg #[.int .i64 0, .slice none 0 0, .int .i64 0], .int .i64 n])) W := by
  subst hR
  exact ⟨none, 0, rfl, Kd.R_nil _ _ _ _ _, hb⟩
theorem R_set3 {W : World} {B g : Nat} {u a b c : Value} {l : List S70} {cs : Array Value} (hS : k70.R 70 W B (fun _ => True) u l) (hx : W.heap[g]? = some (.cells cs 28 (0, 0))) :
    k70.R 70 (((W.setCell ⟨g, 0, none⟩ a).setCell ⟨g, 1, none⟩ b).setCell ⟨g, 2, none⟩ c) B (fun _ => True) u l := by
  have h1 := blk_put hx 0 a rfl
  have h2 := blk_put h1 1 b rfl
  exact Kd.R_set (Kd.R_set (Kd.R_set hS hx (by decide) 0 a) h1 (by decide) 1 b) h2 (by decide) 2 c
theorem tellse_ok {w W : World} {R : Told} {A : Option Addr} {n c : Nat} {v nx : Int} {ts : List S70} (hR : R = ⟨v, ts, nx, 0, 0, 0⟩) (hS : k70.R 70 W w.heap.size (fun _ => True) (.slice A n c) ts) (hb : Below w.heap.size w W) :
    TellsE w R (.returned (.tuple #[.agg #[.int .i64 v, .slice A n c, .int .i64 nx], .int .i64 0])) W := by
  subst hR
  obtain ⟨h0, h1, h2⟩ := Kd.R_reads' hS
  subst h0
  exact ⟨_, _, rfl, hS, hb⟩
structure CrSt (w2 wr : World) (id : Int) (nm_ : ByteArray) (n4 : Int) (cv : Value) (l : List S75) : Prop where
  below : Below w2.heap.size w2 wr
  box : wr.heap[w2.heap.size]? = some (.cells #[.int .i64 id, .string nm_, cv, .slice none 0 0, .int .i64 n4] 70 (0, 0))
  row : k75.R 75 wr w2.heap.size (fun _ => True) cv l
section
variable {w2 wr W W1 : World} {id n4 : Int} {nm_ : ByteArray} {cv cv1 : Value} {l : List S75} {x : S75}
theorem CrSt.step (h : CrSt w2 wr id nm_ n4 cv l) (hb : Below wr.heap.size wr W) : CrSt w2 W id nm_ n4 cv l := ⟨below_then h.below h.below.size hb, blk_below h.box hb, Kd.R_below h.row hb⟩
theorem CrSt.new (w2 : World) (id : Int) (nm_ : ByteArray) (n4 : Int) : CrSt w2 (w2.alloc (.cells #[.int .i64 id, .string nm_, .slice none 0 0, .slice none 0 0, .int .i64 n4] 70)) id nm_ n4 (.slice none 0 0) [] :=
  ⟨below_alloc (Below.refl _ _) _, heap_alloc_new w2 _, Kd.R_nil _ _ _ _ _⟩
theorem CrSt.next (h : CrSt w2 wr id nm_ n4 cv l) (hb : Below w2.heap.size w2 W1) (hg : wr.grownBy W1 cv.ownBlock) (hr : k75.R 75 W1 w2.heap.size (fun _ => True) cv1 (l ++ [x])) : CrSt w2 (W1.setCell ⟨w2.heap.size, 2, none⟩ cv1) id nm_ n4 cv1 (l ++ [x]) := by
  have hx := blk_grown h.box hg (Kd.R_ne h.row h.box (by decide))
  exact ⟨hb.setCell (Nat.le_refl _) _, blk_put hx 2 _ rfl, Kd.R_set hr hx (by decide) 2 _⟩
end
set_option maxRecDepth 100000 in
set_option maxHeartbeats 8000000 in
theorem create_calls (v : Int) (ts : List S70) (nx : Int) (s : S45) (hn : ts.length < 1000) (hw : ∀ t ∈ ts, ∀ c ∈ t.f2, ValWf c.f5)
    (A : Option Addr) (c : Nat) (w : World) (hc : ts.length ≤ c) (g2 : k70.C w A ts.length ts) (cs : List Value) (hs : k45.K w s cs) (hok : StmtOk s) :
    Calls Tryd.prog 29 #[.agg #[.int .i64 v, .slice A ts.length c, .int .i64 nx], .agg cs.toArray] w (TellsE w (createP v ts nx s)) := by
  obtain ⟨A3, c3, A4, c4, A5, c5, A6, c6, A9, c9, rfl, l3, g3, -, -, -, -, -, -, l9, g9⟩ := k45_open hs
  have HC3 := Aside0.mk g3
  have HC9 := Aside0.mk g9
  have HC := Aside0.mk g2
  have hl3 := hok.1
  have hl9 := hok.2.2.1
  obtain ⟨bx, hbx⟩ : ∃ b : Array Value, b = #[.int .i64 v, .slice A ts.length c, .int .i64 nx] := ⟨_, rfl⟩
  obtain ⟨sx, hsx⟩ : ∃ b : Array Value, b = #[.int .i64 s.f0, .string s.f1, .string s.f2, .slice A3 s.f3.length c3, .slice A4 s.f4.length c4, .slice A5 s.f5.length c5, .slice A6 s.f6.length c6, .bool s.f7, .int .i64 s.f8, .slice A9 s.f9.length c9] := ⟨_, rfl⟩
  have HX := Aside0.mk (Bxs.new w bx sx)
  have HM := Lib.hid (fun W (hb : Below w.heap.size w W) => rmay_calls v ts nx hw A c W hc (Kd.C_below g2 hb))
  have HN := Lib.hid (fun w => rname_calls s.f1 w)
  have HI := Lib.hid (show createP v ts nx s = _ by unfold createP; exact rfl)
  obtain ⟨R, hR⟩ : ∃ R, createP v ts nx s = R := ⟨_, rfl⟩
  rw [hR]
  rw [hR] at HI
  rw [hbx, hsx] at HX
  clear hs g2 g3 g9 hR hw
  cases hsch : schB v ts nx with
  | false =>
    have HR := Lib.hid (show R = noTold 3 by rw [HI.out, if_pos hsch])
    rw [hsch] at HM
    clear hsch HI
    go_enter Tryd.func29, Tryd.ntmps29
    go_wp2_with fail
    refine (HM.out _ HX.out.below).mono ?_
    rintro e w1 ⟨rfl, hb1⟩
    have HX1 := Aside0.mk (HX.out.step hb1)
    have f0 := blk_frozen HX1.out.b2 0
    have f1 := blk_frozen HX1.out.b2 1
    have f2 := blk_frozen HX1.out.b2 2
    have c0 := blk_cell (j := 0) (v := .int .i64 0) HX1.out.b2 rfl
    have c1 := blk_cell (j := 1) (v := .slice none 0 0) HX1.out.b2 rfl
    have c2 := blk_cell (j := 2) (v := .int .i64 0) HX1.out.b2 rfl
    clear hb1
    go_wp2
    refine bodyPost_ret (v := .tuple #[.agg #[.int .i64 0, .slice none 0 0, .int .i64 0], .int .i64 3]) (by simp [results, Tryd.results29, go_sem, c0, c1, c2]) rfl (tellse_no HR.out (HX1.out.out _ _ _))
  | true =>
    rw [hsch] at HM
    have HI2 := Lib.hid (HI.out.trans (if_neg (by rw [hsch]; simp)))
    have HB := Lib.hid hsch
    clear hsch HI
    go_enter Tryd.func29, Tryd.ntmps29
    go_wp2_with fail
    refine (HM.out _ HX.out.below).mono ?_
    rintro e w1 ⟨rfl, hb1⟩
    have HX1 := Aside0.mk (HX.out.step hb1)
    have x0 := blk_cell (j := 0) (v := .int .i64 v) HX1.out.b0 rfl
    clear hb1 HX HM
    by_cases hv : 1099511627775 ≤ v
    · have hd : decide (1099511627775 ≤ v) = true := decide_eq_true hv
      have HR := Lib.hid (show R = noTold 4 by rw [HI2.out, if_pos hv])
      have f0 := blk_frozen HX1.out.b2 0
      have f1 := blk_frozen HX1.out.b2 1
      have f2 := blk_frozen HX1.out.b2 2
      have c0 := blk_cell (j := 0) (v := .int .i64 0) HX1.out.b2 rfl
      have c1 := blk_cell (j := 1) (v := .slice none 0 0) HX1.out.b2 rfl
      have c2 := blk_cell (j := 2) (v := .int .i64 0) HX1.out.b2 rfl
      clear hv HI2
      go_wp2
      refine bodyPost_ret (v := .tuple #[.agg #[.int .i64 0, .slice none 0 0, .int .i64 0], .int .i64 4]) (by simp [results, Tryd.results29, go_sem, c0, c1, c2]) rfl (tellse_no HR.out (HX1.out.out _ _ _))
    have hd : decide (1099511627775 ≤ v) = false := decide_eq_false hv
    have HI3 := Lib.hid (HI2.out.trans (if_neg hv))
    have s0 := blk_cell (j := 0) (v := .int .i64 s.f0) HX1.out.b1 rfl
    have s1 := blk_cell (j := 1) (v := .string s.f1) HX1.out.b1 rfl
    have HV := Lib.hid hv
    clear HI2 hv
    by_cases hk5 : ¬ s.f0 = 5
    · have hd5 : (s.f0 != 5) = true := by simpa using hk5
      have HR := Lib.hid (show R = noTold 1 by rw [HI3.out, if_pos hk5])
      have f0 := blk_frozen HX1.out.b2 0
      have f1 := blk_frozen HX1.out.b2 1
      have f2 := blk_frozen HX1.out.b2 2
      have c0 := blk_cell (j := 0) (v := .int .i64 0) HX1.out.b2 rfl
      have c1 := blk_cell (j := 1) (v := .slice none 0 0) HX1.out.b2 rfl
      have c2 := blk_cell (j := 2) (v := .int .i64 0) HX1.out.b2 rfl
      clear hk5 HI3
      go_wp2
      refine bodyPost_ret (v := .tuple #[.agg #[.int .i64 0, .slice none 0 0, .int .i64 0], .int .i64 1]) (by simp [results, Tryd.results29, go_sem, c0, c1, c2]) rfl (tellse_no HR.out (HX1.out.out _ _ _))
    replace hk5 := Decidable.not_not.mp hk5
    have hd5 : (s.f0 != 5) = false := by simpa using hk5
    have HI4 := Lib.hid (HI3.out.trans (if_neg (by simpa using hk5)))
    clear HI3 hk5
    cases hnm : nameB s.f1 with
    | false =>
      have HR := Lib.hid (show R = noTold 3 by rw [HI4.out, if_pos (.inl hnm)])
      rw [hnm] at HN
      clear HI4 hnm
      go_wp2_with fail
      refine (HN.out _).mono ?_
      rintro e w2 ⟨rfl, hb2⟩
      have HX0 := HX1
      clear HX1
      have HX1 := Aside0.mk (HX0.out.step hb2)
      have f0 := blk_frozen HX1.out.b2 0
      have f1 := blk_frozen HX1.out.b2 1
      have f2 := blk_frozen HX1.out.b2 2
      have c0 := blk_cell (j := 0) (v := .int .i64 0) HX1.out.b2 rfl
      have c1 := blk_cell (j := 1) (v := .slice none 0 0) HX1.out.b2 rfl
      have c2 := blk_cell (j := 2) (v := .int .i64 0) HX1.out.b2 rfl
      clear hb2 s0 s1 x0
      go_wp2
      refine bodyPost_ret (v := .tuple #[.agg #[.int .i64 0, .slice none 0 0, .int .i64 0], .int .i64 3]) (by simp [results, Tryd.results29, go_sem, c0, c1, c2]) rfl (tellse_no HR.out (HX1.out.out _ _ _))
    | true =>
      rw [hnm] at HN
      go_wp2_with fail
      refine (HN.out _).mono ?_
      rintro e w2 ⟨rfl, hb2⟩
      have HX0 := HX1
      clear HX1
      have HX1 := Aside0.mk (HX0.out.step hb2)
      clear hb2 s0 s1 x0 HX0 HN
      have s3 := blk_cell (j := 3) (v := .slice A3 s.f3.length c3) HX1.out.b1 rfl
      have s9 := blk_cell (j := 9) (v := .slice A9 s.f9.length c9) HX1.out.b1 rfl
      by_cases hl : ¬ s.f3.length = s.f9.length
      · have hdl : ((s.f3.length : Int) != (s.f9.length : Int)) = true := by rw [bne_iff_ne]; omega
        have HR := Lib.hid (show R = noTold 3 by rw [HI4.out, if_pos (.inr (.inl hl))])
        have f0 := blk_frozen HX1.out.b2 0
        have f1 := blk_frozen HX1.out.b2 1
        have f2 := blk_frozen HX1.out.b2 2
        have c0 := blk_cell (j := 0) (v := .int .i64 0) HX1.out.b2 rfl
        have c1 := blk_cell (j := 1) (v := .slice none 0 0) HX1.out.b2 rfl
        have c2 := blk_cell (j := 2) (v := .int .i64 0) HX1.out.b2 rfl
        clear HI4 hl hnm
        go_wp2
        refine bodyPost_ret (v := .tuple #[.agg #[.int .i64 0, .slice none 0 0, .int .i64 0], .int .i64 3]) (by simp [results, Tryd.results29, go_sem, c0, c1, c2]) rfl (tellse_no HR.out (HX1.out.out _ _ _))
      replace hl := Decidable.not_not.mp hl
      have hdl : ((s.f3.length : Int) != (s.f9.length : Int)) = false := by rw [bne_eq_false_iff_eq]; omega
      by_cases hl1 : s.f3.length < 1
      · have hd1 : decide ((s.f3.length : Int) < 1) = true := decide_eq_true (by omega)
        have HR := Lib.hid (show R = noTold 3 by rw [HI4.out, if_pos (.inr (.inr (.inl hl1)))])
        have f0 := blk_frozen HX1.out.b2 0
        have f1 := blk_frozen HX1.out.b2 1
        have f2 := blk_frozen HX1.out.b2 2
        have c0 := blk_cell (j := 0) (v := .int .i64 0) HX1.out.b2 rfl
        have c1 := blk_cell (j := 1) (v := .slice none 0 0) HX1.out.b2 rfl
        have c2 := blk_cell (j := 2) (v := .int .i64 0) HX1.out.b2 rfl
        clear HI4 hl hl1 hnm
        go_wp2
        refine bodyPost_ret (v := .tuple #[.agg #[.int .i64 0, .slice none 0 0, .int .i64 0], .int .i64 3]) (by simp [results, Tryd.results29, go_sem, c0, c1, c2]) rfl (tellse_no HR.out (HX1.out.out _ _ _))
      have hd1 : decide ((s.f3.length : Int) < 1) = false := decide_eq_false (by omega)
      by_cases hl8 : 8 < s.f3.length
      · have hd8 : decide (8 < (s.f3.length : Int)) = true := decide_eq_true (by omega)
        have HR := Lib.hid (show R = noTold 3 by rw [HI4.out, if_pos (.inr (.inr (.inr hl8)))])
        have f0 := blk_frozen HX1.out.b2 0
        have f1 := blk_frozen HX1.out.b2 1
        have f2 := blk_frozen HX1.out.b2 2
        have c0 := blk_cell (j := 0) (v := .int .i64 0) HX1.out.b2 rfl
        have c1 := blk_cell (j := 1) (v := .slice none 0 0) HX1.out.b2 rfl
        have c2 := blk_cell (j := 2) (v := .int .i64 0) HX1.out.b2 rfl
        clear HI4 hl hl1 hl8 hnm
        go_wp2
        refine bodyPost_ret (v := .tuple #[.agg #[.int .i64 0, .slice none 0 0, .int .i64 0], .int .i64 3]) (by simp [results, Tryd.results29, go_sem, c0, c1, c2]) rfl (tellse_no HR.out (HX1.out.out _ _ _))
      have hd8 : decide (8 < (s.f3.length : Int)) = false := decide_eq_false (by omega)
      have HI5 := Lib.hid (HI4.out.trans (if_neg (show ¬ (nameB s.f1 = false ∨ s.f3.length ≠ s.f9.length ∨ s.f3.length < 1 ∨ 8 < s.f3.length) from fun h => h.elim (fun h => by rw [hnm] at h; cases h) (fun h => h.elim (fun h => h hl) (fun h => h.elim hl1 hl8)))))
      have HLL := Lib.hid hl
      have hlo : 1 ≤ s.f3.length := by omega
      have hhi : s.f3.length ≤ 8 := by omega
      have hnn : 0 ≤ nx ∧ nx < 1099511627776 := by have := HB.out; unfold schB at this; simp only [Bool.and_eq_true, decide_eq_true_eq] at this; exact ⟨this.2.2.1, this.2.2.2.1⟩
      obtain ⟨hn0, hn1⟩ := hnn
      have x2 := blk_cell (j := 2) (v := .int .i64 nx) HX1.out.b0 rfl
      have s1 := blk_cell (j := 1) (v := .string s.f1) HX1.out.b1 rfl
      obtain ⟨id, hid⟩ : ∃ id, mx nx 1 = id := ⟨_, rfl⟩
      have hm : (if nx < 1 then (1 : Int) else nx) = id := hid
      have HID := Lib.hid hid
      have hid0 : 1 ≤ id ∧ id < 1099511627776 := by rw [← hid]; unfold mx; split <;> omega
      clear HI4 hl hl1 hl8 hnm hid
      go_wp2_with fail
      clear hm hdl hd1 hd8 hd hd5 x2 s1
      have HS0 := Aside0.mk (CrSt.new w2 id s.f1 ((s.f3.length : Int) + 1))
      clear s3 s9
      go_loopg [7] s.f3.length (fun gg u7 wr => ∃ j : Nat, ∃ cv : Value, ∃ l : List S75, j ≤ s.f3.length ∧ s.f3.length - j ≤ gg ∧ u7 = .int .i64 j ∧ Aside0 (CrSt w2 wr id s.f1 ((s.f3.length : Int) + 1) cv l) ∧ Aside0 (l.length = j) ∧ Aside0 (badCols s.f3 s.f9 = badCols (s.f3.drop j) (s.f9.drop j)) ∧ Aside0 (newCols 0 s.f3 s.f9 = l ++ newCols j (s.f3.drop j) (s.f9.drop j)))
      case atStart => exact ⟨0, _, [], Nat.zero_le _, by omega, rfl, HS0, ⟨rfl⟩, ⟨by rw [List.drop_zero, List.drop_zero]⟩, ⟨by rw [List.drop_zero, List.drop_zero]; rfl⟩⟩
      case round =>
        clear HS0
        obtain ⟨j, cv, l, hj, hgj, rfl, HS, HJ, HA1, HA2⟩ := hrel
        obtain ⟨Ac, cc, hcv⟩ := Kd.R_slice HS.out.row
        rw [HJ.out] at hcv
        subst hcv
        have hXr := HX1.out.step HS.out.below
        have HXr := Aside0.mk hXr
        have s3 := blk_cell (j := 3) (v := .slice A3 s.f3.length c3) hXr.b1 rfl
        have s9 := blk_cell (j := 9) (v := .slice A9 s.f9.length c9) hXr.b1 rfl
        clear hXr
        by_cases hlt : j < s.f3.length
        · have hltz : (j : Int) < (s.f3.length : Int) := by omega
          have hlt9 : j < s.f9.length := by have := HLL.out; omega
          have hltz9 : (j : Int) < (s.f9.length : Int) := by omega
          obtain ⟨a3, eA3, es⟩ := at_str (Kd.C_below HC3.out HXr.out.below) j hlt
          obtain ⟨a9, eA9, e9⟩ := at_int (Kd.C_below HC9.out HXr.out.below) j hlt9
          cases eA3
          cases eA9
          have hA1 := HA1.out
          have hA2 := HA2.out
          rw [List.drop_eq_getElem_cons hlt, List.drop_eq_getElem_cons hlt9] at hA1 hA2
          generalize s.f3[j] = nme at es hA1 hA2
          generalize s.f9[j] = kd at e9 hA1 hA2
          have hN := Lib.hid (fun w => rname_calls nme w)
          have HE9 := Aside0.mk e9
          have HES := Aside0.mk es
          clear HA1 HA2
          cases hnn : nameB nme with
          | false =>
            rw [hnn] at hN
            have HR := Lib.hid (show R = noTold 3 by rw [HI5.out, if_pos (by rw [hA1]; unfold badCols; rw [hnn]; rfl)])
            clear hA1 hA2 hnn e9
            go_wp2_with fail
            refine (hN.out _).mono ?_
            rintro e w4 ⟨rfl, hb4⟩
            have HX0 := HX1
            clear HX1
            have HX1 := Aside0.mk (HXr.out.step hb4)
            have f0 := blk_frozen HX1.out.b2 0
            have f1 := blk_frozen HX1.out.b2 1
            have f2 := blk_frozen HX1.out.b2 2
            have c0 := blk_cell (j := 0) (v := .int .i64 0) HX1.out.b2 rfl
            have c1 := blk_cell (j := 1) (v := .slice none 0 0) HX1.out.b2 rfl
            have c2 := blk_cell (j := 2) (v := .int .i64 0) HX1.out.b2 rfl
            clear hb4 s3 s9 es
            go_wp2
            refine bodyPost_ret (v := .tuple #[.agg #[.int .i64 0, .slice none 0 0, .int .i64 0], .int .i64 3]) (by simp [results, Tryd.results29, go_sem, c0, c1, c2]) rfl (tellse_no HR.out (HX1.out.out _ _ _))
          | true =>
            rw [hnn] at hN
            go_wp2_with fail
            refine (hN.out _).mono ?_
            rintro e w4 ⟨rfl, hb4⟩
            have HX4 := Aside0.mk (HXr.out.step hb4)
            have HS4 := Aside0.mk (HS.out.step hb4)
            have s3' := blk_cell (j := 3) (v := .slice (some a3) s.f3.length c3) HX4.out.b1 rfl
            have s9' := blk_cell (j := 9) (v := .slice (some a9) s.f9.length c9) HX4.out.b1 rfl
            have e9' := pw_cell_below hb4 HE9.out
            have es' := pw_cell_below hb4 HES.out
            clear s3 s9 e9 es hb4 hN
            by_cases hk1 : kd < 1
            · have hd1 : decide (kd < 1) = true := decide_eq_true hk1
              have HR := Lib.hid (show R = noTold 3 by rw [HI5.out, if_pos (by rw [hA1]; unfold badCols; rw [hnn, hd1]; rfl)])
              have HX0 := HX1
              clear HX1
              have HX1 := HX4
              have f0 := blk_frozen HX1.out.b2 0
              have f1 := blk_frozen HX1.out.b2 1
              have f2 := blk_frozen HX1.out.b2 2
              have c0 := blk_cell (j := 0) (v := .int .i64 0) HX1.out.b2 rfl
              have c1 := blk_cell (j := 1) (v := .slice none 0 0) HX1.out.b2 rfl
              have c2 := blk_cell (j := 2) (v := .int .i64 0) HX1.out.b2 rfl
              clear hk1 hA1 hA2 hnn
              go_wp2
              refine bodyPost_ret (v := .tuple #[.agg #[.int .i64 0, .slice none 0 0, .int .i64 0], .int .i64 3]) (by simp [results, Tryd.results29, go_sem, c0, c1, c2]) rfl (tellse_no HR.out (HX1.out.out _ _ _))
            have hd1 : decide (kd < 1) = false := decide_eq_false hk1
            by_cases hk5 : 5 < kd
            · have hd5 : decide (5 < kd) = true := decide_eq_true hk5
              have HR := Lib.hid (show R = noTold 3 by rw [HI5.out, if_pos (by rw [hA1]; unfold badCols; rw [hnn, hd1, hd5]; rfl)])
              have HX0 := HX1
              clear HX1
              have HX1 := HX4
              have f0 := blk_frozen HX1.out.b2 0
              have f1 := blk_frozen HX1.out.b2 1
              have f2 := blk_frozen HX1.out.b2 2
              have c0 := blk_cell (j := 0) (v := .int .i64 0) HX1.out.b2 rfl
              have c1 := blk_cell (j := 1) (v := .slice none 0 0) HX1.out.b2 rfl
              have c2 := blk_cell (j := 2) (v := .int .i64 0) HX1.out.b2 rfl
              clear hk1 hk5 hA1 hA2 hnn
              go_wp2
              refine bodyPost_ret (v := .tuple #[.agg #[.int .i64 0, .slice none 0 0, .int .i64 0], .int .i64 3]) (by simp [results, Tryd.results29, go_sem, c0, c1, c2]) rfl (tellse_no HR.out (HX1.out.out _ _ _))
            have hd5 : decide (5 < kd) = false := decide_eq_false hk5
            have HA1 := Aside0.mk (show badCols s.f3 s.f9 = badCols (s.f3.drop (j + 1)) (s.f9.drop (j + 1)) by rw [hA1]; conv => lhs; unfold badCols; rw [hnn, hd1, hd5, Bool.not_true, Bool.false_or, Bool.false_or, Bool.false_or])
            have HA2 := Aside0.mk (show newCols 0 s.f3 s.f9 = (l ++ [⟨(j : Int) + 1, nme, kd, 4, if j = 0 then 4 else 0, z73⟩]) ++ newCols (j + 1) (s.f3.drop (j + 1)) (s.f9.drop (j + 1)) by rw [hA2, List.append_assoc]; rfl)
            have hq1 : w2.heap.size < w4.heap.size := lt_of_block HS4.out.box
            have hq2 : w.heap.size + 1 < w4.heap.size := lt_of_block HX4.out.b1
            have hq3 : (a3.add j).block < w4.heap.size := World.block_lt_of_cell? w4 _ es'
            have hq4 : (a9.add j).block < w4.heap.size := World.block_lt_of_cell? w4 _ e9'
            clear hA1 hA2 hnn hk1 hk5
            go_wp2_with fail
            by_cases j0 : j = 0
            · have hj0 : ((j : Int) == 0) = true := by simpa using j0
              have HA2' := Lib.hid HA2.out
              rw [if_pos j0] at HA2'
              clear j0
              go_region
              have hb5 : Below w4.heap.size w4 (w4.alloc (.cells #[.int .i64 ((j : Int) + 1), .string nme, .int .i64 kd, .int .i64 4, .int .i64 0, .int .i64 0, .int .i64 0, .int .u64 0, .string ⟨#[]⟩] 75)).drew := below_drew (below_alloc (Below.refl _ _) _)
              have hx5 : (w4.alloc (.cells #[.int .i64 ((j : Int) + 1), .string nme, .int .i64 kd, .int .i64 4, .int .i64 0, .int .i64 0, .int .i64 0, .int .u64 0, .string ⟨#[]⟩] 75)).drew.heap[w4.heap.size]? = _ := heap_alloc_new w4 _
              generalize (w4.alloc (.cells #[.int .i64 ((j : Int) + 1), .string nme, .int .i64 kd, .int .i64 4, .int .i64 0, .int .i64 0, .int .i64 0, .int .u64 0, .string ⟨#[]⟩] 75)).drew = w5 at hb5 hx5 ⊢
              have k0 := blk_cell (j := 0) (v := .int .i64 ((j : Int) + 1)) hx5 rfl
              have k1 := blk_cell (j := 1) (v := .string nme) hx5 rfl
              have k2 := blk_cell (j := 2) (v := .int .i64 kd) hx5 rfl
              have k3 := blk_cell (j := 3) (v := .int .i64 4) hx5 rfl
              have k4 := blk_cell (j := 4) (v := .int .i64 0) hx5 rfl
              have k5 := blk_cell (j := 5) (v := .int .i64 0) hx5 rfl
              have k6 := blk_cell (j := 6) (v := .int .i64 0) hx5 rfl
              have k7 := blk_cell (j := 7) (v := .int .u64 0) hx5 rfl
              have k8 := blk_cell (j := 8) (v := .string ⟨#[]⟩) hx5 rfl
              have k4f := blk_frozen hx5 4
              have hb6 := hb5.setCell (p := ⟨w4.heap.size, 4, none⟩) (Nat.le_refl _) (.int .i64 4)
              have HSZ := Lib.hid (show (w5.setCell ⟨w4.heap.size, 4, none⟩ (.int .i64 4)).heap.size = w5.heap.size by simp)
              have HS5 := Aside0.mk (HS4.out.step hb6)
              have hS5 := HS4.out.step hb5
              have d2 := blk_cell (j := 2) (v := .slice Ac j cc) hS5.box rfl
              have hne : w2.heap.size ≠ w4.heap.size := blk_ne hS5.box hx5 (by decide)
              clear hq1 hq2 hq3 hq4 es' e9' s3' s9' hb5 hx5 hS5 hb6
              go_wp2_with ((with_reducible refine gate_builtin (b := .append) (xs := #[.tmp 106, .tmp 108]) rfl ?_); at_builtin; refine Kd.R_append k75 (w0 := w2) w2.heap.size rfl (.tmp 106) (.tmp 108) 67 75 (.agg #[(.int .i64 0), (.string ⟨#[]⟩), (.int .i64 0), (.int .i64 0), (.int .i64 0), (.int .i64 0), (.int .i64 0), (.int .u64 0), (.string ⟨#[]⟩)]) 88 rfl Tryd.underlying67 info75 rfl (by decide) (by omega) (.slice Ac j cc) l (⟨(j : Int) + 1, nme, kd, 4, 4, z73⟩ : S75) [.int .i64 ((j : Int) + 1), .string nme, .int .i64 kd, .int .i64 4, .int .i64 4, .int .i64 0, .int .i64 0, .int .u64 0, .string ⟨#[]⟩] (fun _ => True) (fun _ => False) rfl ?aX (k75_mkM _ _ _ _) (fun _ h => h.elim) (fun _ _ => trivial) HS5.out.row HS5.out.below HS5.out.below.size (by rw [HJ.out]; omega) ?_; (case aX => rw [HSZ.out]; rfl); intro v6 w6 hr hb7 hg6 hat6; obtain ⟨A6, c6, h6⟩ := Kd.R_slice hr; rw [show (l ++ [(⟨(j : Int) + 1, nme, kd, 4, 4, z73⟩ : S75)]).length = j + 1 by rw [List.length_append, HJ.out]; rfl] at h6; subst h6; have hx6 := blk_grown HS5.out.box hg6 (Kd.R_ne HS5.out.row HS5.out.box (by decide)); have HF := Aside0.mk (HS5.out.next hb7 hg6 hr); have d6 := blk_cell (j := 2) (v := .slice Ac j cc) hx6 rfl; have f6 := blk_frozen hx6 2; clear hr hb7 hg6 hat6 hx6 k0 k1 k2 k3 k4 k5 k6 k7 k8 d2)
              go_roundg (s.f3.length - (j + 1))
              case measure => omega
              case rel => exact ⟨j + 1, _, l ++ [⟨(j : Int) + 1, nme, kd, 4, 4, z73⟩], by omega, by omega, by go_num, HF, ⟨by rw [List.length_append, HJ.out]; rfl⟩, HA1, ⟨HA2'.out⟩⟩
            · have hj0 : ((j : Int) == 0) = false := by simpa using j0
              have HA2' := Lib.hid HA2.out
              rw [if_neg j0] at HA2'
              clear j0
              go_region
              have hb5 : Below w4.heap.size w4 (w4.alloc (.cells #[.int .i64 ((j : Int) + 1), .string nme, .int .i64 kd, .int .i64 4, .int .i64 0, .int .i64 0, .int .i64 0, .int .u64 0, .string ⟨#[]⟩] 75)).drew := below_drew (below_alloc (Below.refl _ _) _)
              have hx5 : (w4.alloc (.cells #[.int .i64 ((j : Int) + 1), .string nme, .int .i64 kd, .int .i64 4, .int .i64 0, .int .i64 0, .int .i64 0, .int .u64 0, .string ⟨#[]⟩] 75)).drew.heap[w4.heap.size]? = _ := heap_alloc_new w4 _
              generalize (w4.alloc (.cells #[.int .i64 ((j : Int) + 1), .string nme, .int .i64 kd, .int .i64 4, .int .i64 0, .int .i64 0, .int .i64 0, .int .u64 0, .string ⟨#[]⟩] 75)).drew = w5 at hb5 hx5 ⊢
              have k0 := blk_cell (j := 0) (v := .int .i64 ((j : Int) + 1)) hx5 rfl
              have k1 := blk_cell (j := 1) (v := .string nme) hx5 rfl
              have k2 := blk_cell (j := 2) (v := .int .i64 kd) hx5 rfl
              have k3 := blk_cell (j := 3) (v := .int .i64 4) hx5 rfl
              have k4 := blk_cell (j := 4) (v := .int .i64 0) hx5 rfl
              have k5 := blk_cell (j := 5) (v := .int .i64 0) hx5 rfl
              have k6 := blk_cell (j := 6) (v := .int .i64 0) hx5 rfl
              have k7 := blk_cell (j := 7) (v := .int .u64 0) hx5 rfl
              have k8 := blk_cell (j := 8) (v := .string ⟨#[]⟩) hx5 rfl
              have HS5 := Aside0.mk (HS4.out.step hb5)
              have hS5 := HS4.out.step hb5
              have d2 := blk_cell (j := 2) (v := .slice Ac j cc) hS5.box rfl
              have hne : w2.heap.size ≠ w4.heap.size := blk_ne hS5.box hx5 (by decide)
              clear hq1 hq2 hq3 hq4 es' e9' s3' s9' hb5 hx5 hS5
              go_wp2_with ((with_reducible refine gate_builtin (b := .append) (xs := #[.tmp 106, .tmp 108]) rfl ?_); at_builtin; refine Kd.R_append k75 (w0 := w2) w2.heap.size rfl (.tmp 106) (.tmp 108) 67 75 (.agg #[(.int .i64 0), (.string ⟨#[]⟩), (.int .i64 0), (.int .i64 0), (.int .i64 0), (.int .i64 0), (.int .i64 0), (.int .u64 0), (.string ⟨#[]⟩)]) 88 rfl Tryd.underlying67 info75 rfl (by decide) (by omega) (.slice Ac j cc) l (⟨(j : Int) + 1, nme, kd, 4, 0, z73⟩ : S75) [.int .i64 ((j : Int) + 1), .string nme, .int .i64 kd, .int .i64 4, .int .i64 0, .int .i64 0, .int .i64 0, .int .u64 0, .string ⟨#[]⟩] (fun _ => True) (fun _ => False) rfl rfl (k75_mkM _ _ _ _) (fun _ h => h.elim) (fun _ _ => trivial) HS5.out.row HS5.out.below HS5.out.below.size (by rw [HJ.out]; omega) ?_; intro v6 w6 hr hb7 hg6 hat6; obtain ⟨A6, c6, h6⟩ := Kd.R_slice hr; rw [show (l ++ [(⟨(j : Int) + 1, nme, kd, 4, 0, z73⟩ : S75)]).length = j + 1 by rw [List.length_append, HJ.out]; rfl] at h6; subst h6; have hx6 := blk_grown HS5.out.box hg6 (Kd.R_ne HS5.out.row HS5.out.box (by decide)); have HF := Aside0.mk (HS5.out.next hb7 hg6 hr); have d6 := blk_cell (j := 2) (v := .slice Ac j cc) hx6 rfl; have f6 := blk_frozen hx6 2; clear hr hb7 hg6 hat6 hx6 k0 k1 k2 k3 k4 k5 k6 k7 k8 d2)
              go_roundg (s.f3.length - (j + 1))
              case measure => omega
              case rel => exact ⟨j + 1, _, l ++ [⟨(j : Int) + 1, nme, kd, 4, 0, z73⟩], by omega, by omega, by go_num, HF, ⟨by rw [List.length_append, HJ.out]; rfl⟩, HA1, ⟨HA2'.out⟩⟩
        · have hltz : ¬ (j : Int) < (s.f3.length : Int) := by omega
          have hA1 : badCols s.f3 s.f9 = false := by rw [HA1.out, List.drop_eq_nil_of_le (by omega)]; unfold badCols; rfl
          have hA2 : newCols 0 s.f3 s.f9 = l := by rw [HA2.out, List.drop_eq_nil_of_le (by omega)]; unfold newCols; exact List.append_nil l
          have HI6 := Lib.hid (HI5.out.trans (if_neg (by rw [hA1]; simp)))
          have HNC := Lib.hid hA2
          have HT := Lib.hid (fun W (hb : Below w.heap.size w W) => rtabn_calls v ts nx s.f1 hn A c W hc (Kd.C_below HC.out hb))
          obtain ⟨ix, hix⟩ : ∃ ix, idxL (tName s.f1) ts 0 = ix := ⟨_, rfl⟩
          have hia := idxL_at (tName s.f1) ts
          rw [hix] at HT HI6 hia
          have x0 := blk_cell (j := 0) (v := .int .i64 v) HXr.out.b0 rfl
          have x1 := blk_cell (j := 1) (v := .slice A ts.length c) HXr.out.b0 rfl
          have x2 := blk_cell (j := 2) (v := .int .i64 nx) HXr.out.b0 rfl
          have s1 := blk_cell (j := 1) (v := .string s.f1) HXr.out.b1 rfl
          clear hA1 hA2 HA1 HA2 HI5 hix s9
          go_wp2_with fail
          refine (HT.out _ HXr.out.below).mono ?_
          rintro e w5 ⟨rfl, hb5⟩
          have HX5 := Aside0.mk (HXr.out.step hb5)
          have HS5 := Aside0.mk (HS.out.step hb5)
          clear x0 x1 x2 s1 s3 hb5 HT
          rcases Classical.em (∃ k : Nat, k < ts.length ∧ ix = (k : Int)) with ⟨k, hk, rfl⟩ | hno
          · have HR := Lib.hid (show R = noTold 6 by rw [HI6.out, if_pos (.inl (by omega))])
            have hk0 : (0 : Int) ≤ (k : Int) := by omega
            have HX0 := HX1
            clear HX1
            have HX1 := HX5
            have f0 := blk_frozen HX1.out.b2 0
            have f1 := blk_frozen HX1.out.b2 1
            have f2 := blk_frozen HX1.out.b2 2
            have c0 := blk_cell (j := 0) (v := .int .i64 0) HX1.out.b2 rfl
            have c1 := blk_cell (j := 1) (v := .slice none 0 0) HX1.out.b2 rfl
            have c2 := blk_cell (j := 2) (v := .int .i64 0) HX1.out.b2 rfl
            clear HI6 hia
            go_wp2
            refine bodyPost_ret (v := .tuple #[.agg #[.int .i64 0, .slice none 0 0, .int .i64 0], .int .i64 6]) (by simp [results, Tryd.results29, go_sem, c0, c1, c2]) rfl (tellse_no HR.out (HX1.out.out _ _ _))
          obtain rfl : ix = -1 := hia.elim (fun h => h) (fun ⟨k, hk, h, _⟩ => absurd ⟨k, hk, h⟩ hno)
          have s3 := blk_cell (j := 3) (v := .slice A3 s.f3.length c3) HX5.out.b1 rfl
          clear hno hia
          have HTW := Lib.hid (fun W (hb : Below w.heap.size w W) => rtwice_calls s.f3 (by omega) A3 c3 W l3 (Kd.C_below HC3.out hb))
          go_wp2_with fail
          refine (HTW.out _ HX5.out.below).mono ?_
          rintro e w6 ⟨rfl, hb6⟩
          have HX6 := Aside0.mk (HX5.out.step hb6)
          have HS6 := Aside0.mk (HS5.out.step hb6)
          clear hb6 s3 HTW
          cases htw : twiceB [] s.f3 with
          | true =>
            have HR := Lib.hid (show R = noTold 6 by rw [HI6.out, if_pos (.inr htw)])
            have HX0 := HX1
            clear HX1
            have HX1 := HX6
            have f0 := blk_frozen HX1.out.b2 0
            have f1 := blk_frozen HX1.out.b2 1
            have f2 := blk_frozen HX1.out.b2 2
            have c0 := blk_cell (j := 0) (v := .int .i64 0) HX1.out.b2 rfl
            have c1 := blk_cell (j := 1) (v := .slice none 0 0) HX1.out.b2 rfl
            have c2 := blk_cell (j := 2) (v := .int .i64 0) HX1.out.b2 rfl
            clear HI6 htw
            go_wp2
            refine bodyPost_ret (v := .tuple #[.agg #[.int .i64 0, .slice none 0 0, .int .i64 0], .int .i64 6]) (by simp [results, Tryd.results29, go_sem, c0, c1, c2]) rfl (tellse_no HR.out (HX1.out.out _ _ _))
          | false =>
            have HI7 := Lib.hid (HI6.out.trans (if_neg (show ¬ ((0 : Int) ≤ -1 ∨ twiceB [] s.f3 = true) from fun h => h.elim (by omega) (fun h => by rw [htw] at h; cases h))))
            have x1 := blk_cell (j := 1) (v := .slice A ts.length c) HX6.out.b0 rfl
            have x2 := blk_cell (j := 2) (v := .int .i64 nx) HX6.out.b0 rfl
            clear HI6 htw
            by_cases h4 : 4 ≤ ts.length
            · have hd4 : decide ((4 : Int) ≤ (ts.length : Int)) = true := decide_eq_true (by omega)
              have HR := Lib.hid (show R = noTold 4 by rw [HI7.out, if_pos (.inl h4)])
              have HX0 := HX1
              clear HX1
              have HX1 := HX6
              have f0 := blk_frozen HX1.out.b2 0
              have f1 := blk_frozen HX1.out.b2 1
              have f2 := blk_frozen HX1.out.b2 2
              have c0 := blk_cell (j := 0) (v := .int .i64 0) HX1.out.b2 rfl
              have c1 := blk_cell (j := 1) (v := .slice none 0 0) HX1.out.b2 rfl
              have c2 := blk_cell (j := 2) (v := .int .i64 0) HX1.out.b2 rfl
              clear HI7 h4
              go_wp2
              refine bodyPost_ret (v := .tuple #[.agg #[.int .i64 0, .slice none 0 0, .int .i64 0], .int .i64 4]) (by simp [results, Tryd.results29, go_sem, c0, c1, c2]) rfl (tellse_no HR.out (HX1.out.out _ _ _))
            have hd4 : decide ((4 : Int) ≤ (ts.length : Int)) = false := decide_eq_false (by omega)
            by_cases h6 : 60000 ≤ nx
            · have hd6 : decide (60000 ≤ nx) = true := decide_eq_true h6
              have HR := Lib.hid (show R = noTold 4 by rw [HI7.out, if_pos (.inr h6)])
              have HX0 := HX1
              clear HX1
              have HX1 := HX6
              have f0 := blk_frozen HX1.out.b2 0
              have f1 := blk_frozen HX1.out.b2 1
              have f2 := blk_frozen HX1.out.b2 2
              have c0 := blk_cell (j := 0) (v := .int .i64 0) HX1.out.b2 rfl
              have c1 := blk_cell (j := 1) (v := .slice none 0 0) HX1.out.b2 rfl
              have c2 := blk_cell (j := 2) (v := .int .i64 0) HX1.out.b2 rfl
              clear HI7 h4 h6
              go_wp2
              refine bodyPost_ret (v := .tuple #[.agg #[.int .i64 0, .slice none 0 0, .int .i64 0], .int .i64 4]) (by simp [results, Tryd.results29, go_sem, c0, c1, c2]) rfl (tellse_no HR.out (HX1.out.out _ _ _))
            have hd6 : decide (60000 ≤ nx) = false := decide_eq_false h6
            have HR := Lib.hid (HI7.out.trans (if_neg (show ¬ (4 ≤ ts.length ∨ 60000 ≤ nx) from fun h => h.elim h4 h6)))
            have x0 := blk_cell (j := 0) (v := .int .i64 v) HX6.out.b0 rfl
            have hv1 : v < 1099511627775 := by have := HV.out; omega
            have hv0 : 0 ≤ v := by have := HB.out; unfold schB at this; simp only [Bool.and_eq_true, decide_eq_true_eq] at this; exact this.1
            have hlts : ts.length < 4 := by omega
            clear HI7 h4 h6
            go_wp2_with fail
            refine (copy_calls v ts nx (schB_small HB.out) A c w6 hc (Kd.C_below HC.out HX6.out.below)).mono ?_
            rintro e w7 ⟨u, rfl, hS, hb7⟩
            have HU := Aside0.mk (Kd.S_R (Kd.S_lower hS HX6.out.below.size))
            have HX7 := Aside0.mk (HX6.out.step hb7)
            have HS7 := Aside0.mk (HS6.out.step hb7)
            obtain ⟨hid1, hid2⟩ := hid0
            obtain ⟨Au, cu, hu⟩ := Kd.S_slice hS
            subst hu
            clear hS hb7 x0 x1 x2 hd4 hd6
            have z0 := blk_cell (j := 0) (v := .int .i64 id) HS7.out.box rfl
            have z1 := blk_cell (j := 1) (v := .string s.f1) HS7.out.box rfl
            have z2 := blk_cell (j := 2) (v := .slice Ac j cc) HS7.out.box rfl
            have z3 := blk_cell (j := 3) (v := .slice none 0 0) HS7.out.box rfl
            have z4 := blk_cell (j := 4) (v := .int .i64 ((s.f3.length : Int) + 1)) HS7.out.box rfl
            have hq1 : w2.heap.size < w7.heap.size := lt_of_block HS7.out.box
            have HW8 := Aside0.mk (below_alloc (Below.refl _ w7) (.cells #[.int .i64 (v + 1), .slice Au ts.length cu, .int .i64 (id + 1)] 28))
            have HU8 := Aside0.mk (Kd.R_below HU.out HW8.out)
            have HS8 := Aside0.mk (HS7.out.step HW8.out)
            have HX8 := Aside0.mk (HX7.out.step HW8.out)
            have HY8 := Aside0.mk (heap_alloc_new w7 (.cells #[.int .i64 (v + 1), .slice Au ts.length cu, .int .i64 (id + 1)] 28))
            have hq2 : w.heap.size + 1 + 1 < w7.heap.size := lt_of_block HX7.out.b2
            have HSZ8 := Lib.hid (show (w7.alloc (.cells #[.int .i64 (v + 1), .slice Au ts.length cu, .int .i64 (id + 1)] 28)).heap.size = w7.heap.size + 1 by simp)
            have HCL := Aside0.mk (Kd.R_apart' (Kd.R_lower HS8.out.row HX1.out.below.size) (Kd.R_typed HU8.out) (by decide))
            go_wp2_with ((with_reducible refine gate_builtin (b := .append) (xs := #[.tmp 143, .tmp 145]) rfl ?_); at_builtin; refine Kd.R_append k70 (w0 := w) w.heap.size rfl (.tmp 143) (.tmp 145) 26 70 (.agg #[(.int .i64 0), (.string ⟨#[]⟩), (.slice none 0 0), (.slice none 0 0), (.int .i64 0)]) 80 rfl Tryd.underlying26 info70 rfl (by decide) (by omega) (.slice Au ts.length cu) ts (⟨id, s.f1, l, [], (s.f3.length : Int) + 1⟩ : S70) [.int .i64 id, .string s.f1, .slice Ac j cc, .slice none 0 0, .int .i64 ((s.f3.length : Int) + 1)] (fun _ => True) (fun k => True ∧ some k ≠ (Value.slice Au ts.length cu).ownBlock) rfl ?aX (k70_mkM _ _ _ (⟨id, s.f1, l, [], (s.f3.length : Int) + 1⟩ : S70) HCL.out (Kd.R_nil _ _ _ _ _)) (fun _ hk => hk) (fun _ _ => trivial) HU8.out HX8.out.below HX8.out.below.size (by omega) ?_; (case aX => rw [HSZ8.out]; rfl); intro v9 w9 hr hb9 hg9 hat9; obtain ⟨A9', c9', h9⟩ := Kd.R_slice hr; rw [show (ts ++ [(⟨id, s.f1, l, [], (s.f3.length : Int) + 1⟩ : S70)]).length = ts.length + 1 by simp] at h9; subst h9; have HR9 := Aside0.mk hr; have hne9 : ∀ {g : Nat} {cs : Array Value}, (w7.alloc (.cells #[.int .i64 (v + 1), .slice Au ts.length cu, .int .i64 (id + 1)] 28)).heap[g]? = some (.cells cs 28 (0, 0)) → some g ≠ (Value.slice Au ts.length cu).ownBlock := fun hx => Kd.R_ne HU8.out hx (by decide); have HY9 := Aside0.mk (blk_grown HY8.out hg9 (hne9 HY8.out)); have HZ9 := Aside0.mk (blk_grown HX8.out.b2 hg9 (hne9 HX8.out.b2)); have HB9 := Aside0.mk hb9; have y0 := blk_cell (j := 0) (v := .int .i64 (v + 1)) HY9.out rfl; have y1 := blk_cell (j := 1) (v := .slice Au ts.length cu) HY9.out rfl; have y2 := blk_cell (j := 2) (v := .int .i64 (id + 1)) HY9.out rfl; have yf := blk_frozen HY9.out 1; have f0 := blk_frozen HZ9.out 0; have f1 := blk_frozen HZ9.out 1; have f2 := blk_frozen HZ9.out 2; have c0 := blk_cell (j := 0) (v := .int .i64 0) HZ9.out rfl; have c1 := blk_cell (j := 1) (v := .slice none 0 0) HZ9.out rfl; have c2 := blk_cell (j := 2) (v := .int .i64 0) HZ9.out rfl; have hq3 : w7.heap.size ≠ w.heap.size + 1 + 1 := (by omega); clear hr hb9 hg9 hat9 hne9 z0 z1 z2 z3 z4)
            refine bodyPost_ret (v := .tuple #[.agg #[.int .i64 (v + 1), .slice A9' (ts.length + 1) c9', .int .i64 (id + 1)], .int .i64 0]) (by simp [results, Tryd.results29, go_sem, c0, c1, c2, y0, y1, y2]) rfl ?_
            have r1 := Kd.R_set HR9.out HY9.out (by decide) 1 (.slice A9' (ts.length + 1) c9')
            have r2 := blk_far HZ9.out (p := ⟨w7.heap.size, 1, none⟩) (show w.heap.size + 1 + 1 ≠ w7.heap.size by omega) (.slice A9' (ts.length + 1) c9')
            have hlw : w.heap.size ≤ w.heap.size + 1 + 1 := by omega
            have hlw7 : w.heap.size ≤ w7.heap.size := by omega
            exact tellse_ok (by rw [HR.out, HNC.out, HID.out]) (R_set3 r1 r2) ((((HB9.out.setCell (p := ⟨w7.heap.size, 1, none⟩) hlw7 _).setCell (p := ⟨w.heap.size + 1 + 1, 0, none⟩) hlw _).setCell (p := ⟨w.heap.size + 1 + 1, 1, none⟩) hlw _).setCell (p := ⟨w.heap.size + 1 + 1, 2, none⟩) hlw _)
end Go.Proofs.YtjgomlcdmpcoaaaDoor.H
namespace Go.Proofs.YtjgomlcdmpcoaaaDoor.H
open Go.RowKit Go.Proofs.YtjgomlcdmpcoaaaDoorW.PrintWords Go.Proofs.YtjgomlcdmpcoaaaDoorW.PrintLast Go.Proofs.YtjgomlcdmpcoaaaDoorW.PrintMore
open Go.Proofs.YtjgomlcdmpcoaaaDoor.D Go.Proofs.YtjgomlcdmpcoaaaDoor
set_option linter.unusedVariables false
set_option linter.unusedSimpArgs false
def turnI (t : S70) (k : Nat) (st : Int) : S70 := if st = 0 then ⟨t.f0, t.f1, t.f2, t.f3.eraseIdx k, t.f4⟩ else ⟨t.f0, t.f1, t.f2, t.f3.set k ⟨(rd_T98 t.f3 k).f0, (rd_T98 t.f3 k).f1, (rd_T98 t.f3 k).f2, (rd_T98 t.f3 k).f3, st⟩, t.f4⟩
def turnC (t : S70) (k : Nat) (st : Int) : S70 := if st = 0 then ⟨t.f0, t.f1, t.f2.eraseIdx k, t.f3, t.f4⟩ else ⟨t.f0, t.f1, t.f2.set k ⟨(rd_T75 t.f2 k).f0, (rd_T75 t.f2 k).f1, (rd_T75 t.f2 k).f2, st, (rd_T75 t.f2 k).f4, (rd_T75 t.f2 k).f5⟩, t.f3, t.f4⟩
def turnN (t : S70) (k : Nat) (st : Int) : S70 := ⟨t.f0, t.f1, t.f2.set k ⟨(rd_T75 t.f2 k).f0, (rd_T75 t.f2 k).f1, (rd_T75 t.f2 k).f2, (rd_T75 t.f2 k).f3, st, (rd_T75 t.f2 k).f5⟩, t.f3, t.f4⟩
def turnP (t : S70) (kind elem by_ : Int) : S70 :=
  if kind = 6 ∨ kind = 7 then turnI t (idxL (xId elem) t.f3 0).toNat (elemI t kind elem + by_)
  else if kind = 8 ∨ kind = 9 then turnC t (idxL (cId elem) t.f2 0).toNat (elemI t kind elem + by_)
  else turnN t (idxL (cId elem) t.f2 0).toNat (elemI t kind elem + by_)
def TurnAt (kind elem by_ : Int) : Prop :=
  ∀ (w0 W : World) (g n cap : Nat) (ts : List S70) (i : Nat) (oki : Nat → Prop) (t : S70) (cv iv : Value), Below w0.heap.size w0 W → Lent W w0.heap.size g n cap ts i oki t cv iv → tableB t = true → 0 ≤ elemI t kind elem → elemI t kind elem ≤ 4 →
    Calls Tryd.prog 69 #[.pointer (some ⟨g, i * 5, none⟩), .int .i64 kind, .int .i64 elem, .int .i64 by_] W fun e W' => e = .returned (.tuple #[]) ∧ Kd.S k70 70 W' w0.heap.size (fun _ => True) (.slice (some ⟨g, 0, none⟩) n cap) (ts.set i (turnP t kind elem by_)) ∧ Tch w0.heap.size W W'
theorem rindex_calls (t : S70) (h3 : t.f3.length < 1000) (n : Int) (A2 : Option Addr) (c2 : Nat) (A3 : Option Addr) (c3 : Nat) (w : World) (l2 : t.f2.length ≤ c2) (g2 : k75.C w A2 t.f2.length t.f2) (l3 : t.f3.length ≤ c3) (g3 : k98.C w A3 t.f3.length t.f3) :
    Calls Tryd.prog 66 #[.agg #[.int .i64 t.f0, .string t.f1, .slice A2 t.f2.length c2, .slice A3 t.f3.length c3, .int .i64 t.f4], .int .i64 n] w fun e w' => e = .returned (.int .i64 (idxL (xId n) t.f3 0)) ∧ Below w.heap.size w w' := by
  have h := index_run t n (by omega) t.f3.length 1001 0 (by omega) (by omega)
  rw [List.drop_zero] at h
  exact (falseworkref18_index.calls 1001 t.f0 t.f1 A2 c2 t.f2 A3 c3 t.f3 t.f4 n _ w g2 l2 g3 l3 h).mono fun e w' h => ⟨h.1, by first | exact h.2 | exact h.2.below⟩
set_option maxRecDepth 100000 in
set_option maxHeartbeats 4000000 in
theorem turn6_up (elem : Int) : TurnAt 6 elem 1 := by
  intro w0 W g n cap ts i oki t cv iv hB hL ht he0 he4
  obtain ⟨m2, m3, m4, m5⟩ := tableB_lens ht
  obtain ⟨Ac, cc, hcv, lcc, hCc⟩ := Kd.R_reads hL.cols
  obtain ⟨Ai, ci, hiv, lci, hCi⟩ := Kd.R_reads hL.inds
  subst hcv hiv
  have hix := idxL_at (xId elem) t.f3
  have hel : elemI t 6 elem = if 0 ≤ idxL (xId elem) t.f3 0 then (rd_T98 t.f3 (idxL (xId elem) t.f3 0)).f4 else -1 := by unfold elemI; rw [if_pos (.inl rfl)]
  obtain ⟨ix, hixx⟩ : ∃ ix, idxL (xId elem) t.f3 0 = ix := ⟨_, rfl⟩
  have HT := Lib.hid (rindex_calls t (by omega) elem Ac cc Ai ci W lcc hCc lci hCi)
  have hR : turnP t 6 elem 1 = turnI t (idxL (xId elem) t.f3 0).toNat (elemI t 6 elem + 1) := by unfold turnP; rw [if_pos (.inl rfl)]
  rw [hR]
  rw [hixx] at hix hel HT ⊢
  rcases hix with rfl | ⟨k, hk, rfl, -⟩
  · rw [hel, if_neg (by omega)] at he0; omega
  rw [if_pos (by omega), rd98 _ _ hk] at hel
  obtain ⟨st, hst⟩ : ∃ st, elemI t 6 elem = st := ⟨_, rfl⟩
  rw [hst] at he0 he4 hel ⊢
  have HST := Lib.hid hel
  obtain ⟨gi, ci', hgi, -⟩ := Kd.R_form hL.inds (by omega)
  obtain rfl : Ai = some ⟨gi, 0, none⟩ := by injection hgi
  clear hgi
  have HU := Aside0.mk (⟨hL, Tch.refl _ _, hB.size⟩ : UpdSt w0 W W g n cap ts i oki t (.slice Ac t.f2.length cc) (.slice (some ⟨gi, 0, none⟩) t.f3.length ci))
  have a0 := hL.cell 0 rfl
  have a1 := hL.cell 1 rfl
  have a2 := hL.cell 2 rfl
  have a3 := hL.cell 3 rfl
  have a4 := hL.cell 4 rfl
  rw [Nat.add_zero] at a0
  have hkl : (k : Int) < (t.f3.length : Int) := by omega
  have hst1 : ¬ (st + 1 = 0) := by omega
  have hRR := Lib.hid (show turnI t (k : Int).toNat (st + 1) = ⟨t.f0, t.f1, t.f2, t.f3.set k ⟨t.f3[k].f0, t.f3[k].f1, t.f3[k].f2, t.f3[k].f3, st + 1⟩, t.f4⟩ by unfold turnI; rw [if_neg hst1, Int.toNat_natCast, rd98 _ _ hk])
  have hq : (st + 1 == 0) = false := by simpa using hst1
  obtain ⟨T, hT⟩ : ∃ T, turnI t (k : Int).toNat (st + 1) = T := ⟨_, rfl⟩
  rw [hT] at hRR
  rw [hT]
  clear hB hL ht hR hixx hst hel hCc hCi hst1 hT
  go_enter Tryd.func69, Tryd.ntmps69
  go_wp2_with fail
  refine HT.out.mono ?_
  rintro e w1 ⟨rfl, hb1⟩
  have HU1 := Aside0.mk (HU.out.step hb1)
  have b3 := HU1.out.lent.cell 3 rfl
  obtain ⟨cz, hcl, hM, hcc, hfr⟩ := Kd.R_elem HU1.out.lent.inds z98 (k : Int) (by omega) (by omega)
  rw [show t.f3.getD (k : Int).toNat z98 = t.f3[k] by simp [List.getD, hk]] at hM
  obtain ⟨v2, rfl, -⟩ := k98_openM hM
  have e4 : w1.cell? ⟨gi, k * 5 + 4, none⟩ = some (.int .i64 t.f3[k].f4) := hcc 4 _ rfl
  have f4 : w1.frozen? ⟨gi, k * 5 + 4, none⟩ = false := hfr 4
  rw [← HST.out] at e4
  have HF := Aside0.mk (HU1.out.putI k hk (st + 1) rfl)
  have hne : g ≠ gi := fun e => HU1.out.lent.oki_ne gi (HU1.out.lent.inds.1 gi (by simp [Value.ownBlock])) e.symm
  have hne' : gi ≠ g := Ne.symm hne
  have hk0 : (0 : Int) ≤ (k : Int) := by omega
  clear hcl hM hcc hfr hb1 a0 a1 a2 a3 a4 HT HST
  go_wp2_with fail
  go_region
  all_goals
    go_wp2
    go_end0
    rw [hRR.out]
    exact ⟨rfl, (HF.out.step (below_drew (Below.refl _ _))).done⟩
end Go.Proofs.YtjgomlcdmpcoaaaDoor.H
namespace Go.Proofs.YtjgomlcdmpcoaaaDoor.H
open Go.RowKit Go.Proofs.YtjgomlcdmpcoaaaDoorW.PrintWords Go.Proofs.YtjgomlcdmpcoaaaDoorW.PrintLast Go.Proofs.YtjgomlcdmpcoaaaDoorW.PrintMore
open Go.Proofs.YtjgomlcdmpcoaaaDoor.D Go.Proofs.YtjgomlcdmpcoaaaDoor
set_option linter.unusedVariables false
set_option linter.unusedSimpArgs false
def stepP (v : Int) (ts : List S70) (nx : Int) (kind table elem : Int) (up : Bool) : Told :=
  if schB v ts nx = false then noTold 3
  else if 1099511627775 ≤ v then noTold 4
  else if stateI v ts nx kind table elem < 0 then noTold 5
  else if (up = true ∧ stateI v ts nx kind table elem = 4) ∨ (up = false ∧ stateI v ts nx kind table elem = 0) then noTold 12
  else if 8 ≤ kind ∧ idxL (cId elem) (rd_T70 ts (idxL (tId table) ts 0)).f2 0 = 0 then noTold 8
  else if up = false ∧ stateI v ts nx kind table elem = 1 ∧ (kind = 8 ∨ kind = 9) ∧ usedB elem (rd_T70 ts (idxL (tId table) ts 0)).f3 = true then noTold 18
  else ⟨v + 1, ts.set (idxL (tId table) ts 0).toNat (turnP (rd_T70 ts (idxL (tId table) ts 0)) kind elem (if up = true then 1 else -1)), nx, 0, 0, 0⟩
theorem stepP_eq (v : Int) (ts : List S70) (nx : Int) (kind table elem : Int) (up : Bool) : stepP v ts nx kind table elem up =
  (if schB v ts nx = false then noTold 3
  else if 1099511627775 ≤ v then noTold 4
  else if stateI v ts nx kind table elem < 0 then noTold 5
  else if (up = true ∧ stateI v ts nx kind table elem = 4) ∨ (up = false ∧ stateI v ts nx kind table elem = 0) then noTold 12
  else if 8 ≤ kind ∧ idxL (cId elem) (rd_T70 ts (idxL (tId table) ts 0)).f2 0 = 0 then noTold 8
  else if up = false ∧ stateI v ts nx kind table elem = 1 ∧ (kind = 8 ∨ kind = 9) ∧ usedB elem (rd_T70 ts (idxL (tId table) ts 0)).f3 = true then noTold 18
  else ⟨v + 1, ts.set (idxL (tId table) ts 0).toNat (turnP (rd_T70 ts (idxL (tId table) ts 0)) kind elem (if up = true then 1 else -1)), nx, 0, 0, 0⟩) := rfl
structure Bxt (w W : World) (bx : Array Value) : Prop where
  below : Below w.heap.size w W
  b0 : W.heap[w.heap.size]? = some (.cells bx 28 (0, 0))
  b2 : W.heap[w.heap.size + 1]? = some (.cells #[.int .i64 0, .slice none 0 0, .int .i64 0] 28 (0, 0))
section
variable {w W W1 : World} {bx : Array Value}
theorem Bxt.new (w : World) (bx : Array Value) : Bxt w ((w.alloc (.cells bx 28)).alloc (.cells #[.int .i64 0, .slice none 0 0, .int .i64 0] 28)) bx := by
  have h1 := heap_alloc_new w (.cells bx 28)
  have h2 := heap_alloc_new (w.alloc (.cells bx 28)) (.cells #[.int .i64 0, .slice none 0 0, .int .i64 0] 28)
  rw [show (w.alloc (.cells bx 28)).heap.size = w.heap.size + 1 by simp] at h2
  exact ⟨below_alloc (below_alloc (Below.refl _ _) _) _, blk_alloc h1 _, h2⟩
theorem Bxt.step (h : Bxt w W bx) (hb : Below W.heap.size W W1) : Bxt w W1 bx := ⟨below_then h.below h.below.size hb, blk_below h.b0 hb, blk_below h.b2 hb⟩
theorem Bxt.tch (h : Bxt w W bx) (hb : Tch w.heap.size W W1) : Bxt w W1 bx := ⟨h.below.trans hb.below, hb.box h.b0, hb.box h.b2⟩
theorem Bxt.out (h : Bxt w W bx) (a b c : Value) : Below w.heap.size w (((W.setCell ⟨w.heap.size + 1, 0, none⟩ a).setCell ⟨w.heap.size + 1, 1, none⟩ b).setCell ⟨w.heap.size + 1, 2, none⟩ c) :=
  have hl : w.heap.size ≤ w.heap.size + 1 := by omega
  ((h.below.setCell hl _).setCell hl _).setCell hl _
theorem Bxt.far (h : Bxt w W bx) {g j : Nat} (hg : w.heap.size + 1 < g) (u : Value) : Bxt w (W.setCell ⟨g, j, none⟩ u) bx :=
  ⟨h.below.setCell (p := ⟨g, j, none⟩) (show w.heap.size ≤ g by omega) _, blk_far h.b0 (p := ⟨g, j, none⟩) (show w.heap.size ≠ g by omega) _, blk_far h.b2 (p := ⟨g, j, none⟩) (show w.heap.size + 1 ≠ g by omega) _⟩
end
theorem rbyid_calls (v : Int) (ts : List S70) (nx : Int) (n : Int) (hn : ts.length < 1000) (A : Option Addr) (c : Nat) (w : World) (hc : ts.length ≤ c) (g2 : k70.C w A ts.length ts) :
    Calls Tryd.prog 65 #[.agg #[.int .i64 v, .slice A ts.length c, .int .i64 nx], .int .i64 n] w fun e w' => e = .returned (.int .i64 (idxL (tId n) ts 0)) ∧ Below w.heap.size w w' := by
  have h := byId_run n v ts nx (by omega) ts.length 1001 0 (by omega) (by omega)
  rw [List.drop_zero] at h
  exact (falseworkref18_ByID.calls 1001 v A c ts nx n _ w g2 hc h).mono fun e w' h => ⟨h.1, by first | exact h.2 | exact h.2.below⟩
theorem elem6_le {t : S70} (ht : tableB t = true) (elem : Int) : elemI t 6 elem ≤ 4 := by
  unfold elemI
  rw [if_pos (.inl rfl)]
  rcases idxL_at (xId elem) t.f3 with h | ⟨k, hk, h, -⟩
  · rw [h, if_neg (by omega)]; omega
  · rw [h, if_pos (by omega), rd98 _ _ hk]
    unfold tableB at ht
    simp only [Bool.and_eq_true, decide_eq_true_eq] at ht
    have := tindsB_all _ _ _ ht.2.2.2.2.2.2.2.1 _ (List.getElem_mem hk)
    unfold indexB at this
    simp only [Bool.and_eq_true, decide_eq_true_eq] at this
    have h2 := this.2.2.2.1
    unfold stateB at h2
    simp only [Bool.and_eq_true, decide_eq_true_eq] at h2
    exact h2.2
def HeldY (w W0 W : World) (m : Nat) (a b c d : Value) : Prop := Below W0.heap.size W0 W ∧ W.cell? ⟨w.heap.size, 0, none⟩ = some a ∧ W.cell? ⟨w.heap.size, 1, none⟩ = some b ∧ W.cell? ⟨w.heap.size, 2, none⟩ = some c ∧ W.cell? ⟨m, 1, none⟩ = some d
theorem HeldY.new {w W0 : World} {m : Nat} {a b c d : Value} (h0 : W0.cell? ⟨w.heap.size, 0, none⟩ = some a) (h1 : W0.cell? ⟨w.heap.size, 1, none⟩ = some b) (h2 : W0.cell? ⟨w.heap.size, 2, none⟩ = some c) (h3 : W0.cell? ⟨m, 1, none⟩ = some d) : HeldY w W0 W0.drew m a b c d :=
  ⟨below_drew (Below.refl _ _), h0, h1, h2, h3⟩
theorem HeldY.step {w W0 W W' : World} {m : Nat} {a b c d : Value} (h : HeldY w W0 W m a b c d) (hb : Below W.heap.size W W') : HeldY w W0 W' m a b c d := by
  obtain ⟨h1, h2, h3, h4, h5⟩ := h
  exact ⟨below_then h1 h1.size hb, pw_cell_below hb h2, pw_cell_below hb h3, pw_cell_below hb h4, pw_cell_below hb h5⟩
set_option maxRecDepth 100000 in
set_option maxHeartbeats 8000000 in
theorem step6_calls (v : Int) (ts : List S70) (nx : Int) (table elem : Int) (hn : ts.length < 1000) (hw : ∀ t ∈ ts, ∀ c ∈ t.f2, ValWf c.f5)
    (A : Option Addr) (c : Nat) (w : World) (hc : ts.length ≤ c) (g2 : k70.C w A ts.length ts) :
    Calls Tryd.prog 32 #[.agg #[.int .i64 v, .slice A ts.length c, .int .i64 nx], .int .i64 6, .int .i64 table, .int .i64 elem, .bool true] w (TellsE w (stepP v ts nx 6 table elem true)) := by
  have HC := Aside0.mk g2
  obtain ⟨bx, hbx⟩ : ∃ b : Array Value, b = #[.int .i64 v, .slice A ts.length c, .int .i64 nx] := ⟨_, rfl⟩
  have HX := Aside0.mk (Bxt.new w bx)
  have HM := Lib.hid (fun W (hb : Below w.heap.size w W) => rmay_calls v ts nx hw A c W hc (Kd.C_below g2 hb))
  have HQ := Lib.hid (fun W (hb : Below w.heap.size w W) => rstate_calls v ts nx hn hw 6 table elem A c W hc (Kd.C_below g2 hb))
  have HI := Lib.hid (stepP_eq v ts nx 6 table elem true)
  obtain ⟨R, hR⟩ : ∃ R, stepP v ts nx 6 table elem true = R := ⟨_, rfl⟩
  rw [hR]
  rw [hR] at HI
  rw [hbx] at HX
  have HIX := idxL_at (tId table) ts
  have HSTT := Lib.hid (show stateI v ts nx 6 table elem = _ by unfold stateI; exact rfl)
  obtain ⟨st, hst⟩ : ∃ st, stateI v ts nx 6 table elem = st := ⟨_, rfl⟩
  obtain ⟨ix, hix⟩ : ∃ ix, idxL (tId table) ts 0 = ix := ⟨_, rfl⟩
  rw [hst] at HQ HI HSTT
  rw [hix] at HIX HI HSTT
  have HP := Lib.hid hix
  clear g2 hR hw hst hix
  cases hsch : schB v ts nx with
  | false =>
    have HR := Lib.hid (show R = noTold 3 by rw [HI.out, if_pos hsch])
    rw [hsch] at HM
    clear hsch HI HIX
    go_enter Tryd.func32, Tryd.ntmps32
    go_wp2_with fail
    refine (HM.out _ HX.out.below).mono ?_
    rintro e w1 ⟨rfl, hb1⟩
    have HX1 := Aside0.mk (HX.out.step hb1)
    have f0 := blk_frozen HX1.out.b2 0
    have f1 := blk_frozen HX1.out.b2 1
    have f2 := blk_frozen HX1.out.b2 2
    have c0 := blk_cell (j := 0) (v := .int .i64 0) HX1.out.b2 rfl
    have c1 := blk_cell (j := 1) (v := .slice none 0 0) HX1.out.b2 rfl
    have c2 := blk_cell (j := 2) (v := .int .i64 0) HX1.out.b2 rfl
    clear hb1
    go_wp2
    refine bodyPost_ret (v := .tuple #[.agg #[.int .i64 0, .slice none 0 0, .int .i64 0], .int .i64 3]) (by simp [results, Tryd.results32, go_sem, c0, c1, c2]) rfl (tellse_no HR.out (HX1.out.out _ _ _))
  | true =>
    rw [hsch] at HM
    have HSTT := Lib.hid (HSTT.out.trans (show _ = (if 0 ≤ ix then elemI (rd_T70 ts ix) 6 elem else -1) by rw [if_pos hsch]))
    have HI2 := Lib.hid (HI.out.trans (if_neg (by rw [hsch]; simp)))
    have HB := Lib.hid hsch
    clear hsch HI
    go_enter Tryd.func32, Tryd.ntmps32
    go_wp2_with fail
    refine (HM.out _ HX.out.below).mono ?_
    rintro e w1 ⟨rfl, hb1⟩
    have HX1 := Aside0.mk (HX.out.step hb1)
    have x0 := blk_cell (j := 0) (v := .int .i64 v) HX1.out.b0 rfl
    clear hb1 HX HM
    by_cases hv : 1099511627775 ≤ v
    · have hd : decide (1099511627775 ≤ v) = true := decide_eq_true hv
      have HR := Lib.hid (show R = noTold 4 by rw [HI2.out, if_pos hv])
      have f0 := blk_frozen HX1.out.b2 0
      have f1 := blk_frozen HX1.out.b2 1
      have f2 := blk_frozen HX1.out.b2 2
      have c0 := blk_cell (j := 0) (v := .int .i64 0) HX1.out.b2 rfl
      have c1 := blk_cell (j := 1) (v := .slice none 0 0) HX1.out.b2 rfl
      have c2 := blk_cell (j := 2) (v := .int .i64 0) HX1.out.b2 rfl
      clear hv HI2 HIX
      go_wp2
      refine bodyPost_ret (v := .tuple #[.agg #[.int .i64 0, .slice none 0 0, .int .i64 0], .int .i64 4]) (by simp [results, Tryd.results32, go_sem, c0, c1, c2]) rfl (tellse_no HR.out (HX1.out.out _ _ _))
    have hd : decide (1099511627775 ≤ v) = false := decide_eq_false hv
    have HI3 := Lib.hid (HI2.out.trans (if_neg hv))
    have x1 := blk_cell (j := 1) (v := .slice A ts.length c) HX1.out.b0 rfl
    have x2 := blk_cell (j := 2) (v := .int .i64 nx) HX1.out.b0 rfl
    have HV := Lib.hid hv
    clear HI2 hv
    go_wp2_with fail
    refine (HQ.out _ HX1.out.below).mono ?_
    rintro e w2 ⟨rfl, hb2⟩
    have HX2 := Aside0.mk (HX1.out.step hb2)
    clear hb2 x0 x1 x2 hd HQ
    by_cases hs0 : st < 0
    · have hd : decide (st < 0) = true := decide_eq_true hs0
      have HR := Lib.hid (show R = noTold 5 by rw [HI3.out, if_pos hs0])
      clear HX1
      have HX1 := HX2
      have f0 := blk_frozen HX1.out.b2 0
      have f1 := blk_frozen HX1.out.b2 1
      have f2 := blk_frozen HX1.out.b2 2
      have c0 := blk_cell (j := 0) (v := .int .i64 0) HX1.out.b2 rfl
      have c1 := blk_cell (j := 1) (v := .slice none 0 0) HX1.out.b2 rfl
      have c2 := blk_cell (j := 2) (v := .int .i64 0) HX1.out.b2 rfl
      clear hs0 HI3 HIX
      go_wp2
      refine bodyPost_ret (v := .tuple #[.agg #[.int .i64 0, .slice none 0 0, .int .i64 0], .int .i64 5]) (by simp [results, Tryd.results32, go_sem, c0, c1, c2]) rfl (tellse_no HR.out (HX1.out.out _ _ _))
    have hd : decide (st < 0) = false := decide_eq_false hs0
    have HI4 := Lib.hid (HI3.out.trans (if_neg hs0))
    have hs0' : 0 ≤ st := by omega
    clear HI3
    by_cases hs4 : st = 4
    · have hd4 : (st == 4) = true := by simpa using hs4
      have HR := Lib.hid (show R = noTold 12 by rw [HI4.out, if_pos (.inl ⟨by simp, hs4⟩)])
      clear HX1
      have HX1 := HX2
      have f0 := blk_frozen HX1.out.b2 0
      have f1 := blk_frozen HX1.out.b2 1
      have f2 := blk_frozen HX1.out.b2 2
      have c0 := blk_cell (j := 0) (v := .int .i64 0) HX1.out.b2 rfl
      have c1 := blk_cell (j := 1) (v := .slice none 0 0) HX1.out.b2 rfl
      have c2 := blk_cell (j := 2) (v := .int .i64 0) HX1.out.b2 rfl
      clear hs0 hs4 HI4 HIX
      go_wp2
      refine bodyPost_ret (v := .tuple #[.agg #[.int .i64 0, .slice none 0 0, .int .i64 0], .int .i64 12]) (by simp [results, Tryd.results32, go_sem, c0, c1, c2]) rfl (tellse_no HR.out (HX1.out.out _ _ _))
    have hd4 : (st == 4) = false := by simpa using hs4
    have HI5 := Lib.hid (HI4.out.trans (if_neg (by simp [hs4])))
    have HR := Lib.hid ((HI5.out.trans (if_neg (by simp))).trans (if_neg (by simp)))
    obtain ⟨k, hk, rfl⟩ : ∃ k : Nat, k < ts.length ∧ ix = (k : Int) := by
      rcases HIX with rfl | ⟨k, hk, h, -⟩
      · have := HSTT.out; rw [if_neg (by omega)] at this; omega
      · exact ⟨k, hk, h⟩
    have hel : elemI ts[k] 6 elem = st := by have := HSTT.out; rw [if_pos (by omega), rd70 _ _ hk] at this; exact this.symm
    have HEL := Lib.hid hel
    have x0 := blk_cell (j := 0) (v := .int .i64 v) HX2.out.b0 rfl
    have x1 := blk_cell (j := 1) (v := .slice A ts.length c) HX2.out.b0 rfl
    have x2 := blk_cell (j := 2) (v := .int .i64 nx) HX2.out.b0 rfl
    have hk0 : (0 : Int) ≤ (k : Int) := by omega
    have hkl : (k : Int) < (ts.length : Int) := by omega
    have hv1 : v < 1099511627775 := by have := HV.out; omega
    have hv0 : 0 ≤ v := by have := HB.out; unfold schB at this; simp only [Bool.and_eq_true, decide_eq_true_eq] at this; exact this.1
    clear HI4 HI5 HIX HSTT hel hs0 hs4 HX1
    go_wp2_with fail
    refine (copy_calls v ts nx (schB_small HB.out) A c w2 hc (Kd.C_below HC.out HX2.out.below)).mono ?_
    rintro e w3 ⟨u, rfl, hS, hb3⟩
    have hS' := Kd.S_lower hS HX2.out.below.size
    obtain ⟨g, cap, rfl, -⟩ := Kd.S_form hS' (by omega)
    obtain ⟨Y, hY⟩ : ∃ Y : Obj, Y = .cells #[.int .i64 v, .slice (some ⟨g, 0, none⟩) ts.length cap, .int .i64 nx] 28 := ⟨_, rfl⟩
    have hby := below_alloc (Below.refl _ w3) Y
    have hX3 := HX2.out.step hb3
    have HX3 := Aside0.mk (hX3.step hby)
    have HS3 := Aside0.mk (Kd.S_alloc hS' Y)
    have HY := Aside0.mk (heap_alloc_new w3 Y)
    have hq3 : w.heap.size + 1 < w3.heap.size := lt_of_block hX3.b2
    clear hS hS' hb3 x0 x1 x2 HX2 hby hX3
    rw [hY] at HX3 HS3 HY
    go_wp2_with fail
    rw [← hY]
    rw [← hY] at HX3 HS3 HY
    obtain ⟨m, hm⟩ : ∃ m, m = w3.heap.size := ⟨_, rfl⟩
    rw [← hm] at HY hq3 ⊢
    have HM3 := Lib.hid hm
    generalize w3.alloc Y = w4 at HX3 HS3 HY ⊢
    clear hm
    have HYY := HY
    rw [hY] at HYY
    have HYB := Aside0.mk (show w4.heap[m]? = some (.cells #[.int .i64 v, .slice (some ⟨g, 0, none⟩) ts.length cap, .int .i64 nx] 28 (0, 0)) from HYY.out)
    clear HYY HY hY
    have HP3 := Lib.hid (fun W (hb : Below w.heap.size w W) => rbyid_calls v ts nx table hn A c W hc (Kd.C_below HC.out hb))
    rw [HP.out] at HP3
    have x0 := blk_cell (j := 0) (v := .int .i64 v) HX3.out.b0 rfl
    have x1 := blk_cell (j := 1) (v := .slice A ts.length c) HX3.out.b0 rfl
    have x2 := blk_cell (j := 2) (v := .int .i64 nx) HX3.out.b0 rfl
    have y1 := blk_cell (j := 1) (v := .slice (some ⟨g, 0, none⟩) ts.length cap) HYB.out rfl
    have HH := Aside0.mk (HeldY.new (w := w) (W0 := w4) x0 x1 x2 y1)
    clear x0 x1 x2 y1
    go_region_held3 (fun W => Below w4.heap.size w4 W ∧ W.cell? ⟨w.heap.size, 0, none⟩ = some (.int .i64 v) ∧ W.cell? ⟨w.heap.size, 1, none⟩ = some (.slice A ts.length c) ∧ W.cell? ⟨w.heap.size, 2, none⟩ = some (.int .i64 nx) ∧ W.cell? ⟨m, 1, none⟩ = some (.slice (some ⟨g, 0, none⟩) ts.length cap))
      (first | exact HH.out | exact HeldY.step (m := m) ⟨by assumption, by assumption, by assumption, by assumption, by assumption⟩ hbq)
      (first | (go_at_call 65; go_split_ands; refine (HP3.out _ (below_then HX3.out.below HX3.out.below.size (by assumption))).mono ?_; rintro e w5 ⟨rfl, hbq⟩))
    rename_i hHeld
    obtain ⟨hb5, -, -, -, -⟩ := hHeld
    have HX5 := Aside0.mk (HX3.out.step hb5)
    have HY5 := Aside0.mk (blk_below HYB.out hb5)
    obtain ⟨oki, cv, iv, hL⟩ := lend (Kd.S_below HS3.out hb5) hk
    have HTB := Lib.hid (schB_tab HB.out _ (List.getElem_mem hk))
    obtain ⟨t, ht⟩ : ∃ t, ts[k] = t := ⟨_, rfl⟩
    have HR6 := HR
    rw [rd70 _ _ hk] at HR6
    rw [ht] at hL HTB HEL HR6
    have HUU := Lib.hid (turn6_up elem w _ g ts.length cap ts k oki t cv iv HX5.out.below hL HTB.out (by rw [HEL.out]; exact hs0') (elem6_le HTB.out elem))
    clear hb5 HS3 HX3 HYB HH HP3 hL ht HR
    go_wp2_with fail
    refine HUU.out.mono ?_
    rintro e w6 ⟨rfl, hS6, hT6⟩
    have HX6 := Aside0.mk (HX5.out.tch hT6)
    have hY6 := hT6.box HY5.out
    have y0 := blk_cell (j := 0) (v := .int .i64 v) hY6 rfl
    have yf := blk_frozen hY6 0
    have hX7 := HX6.out.far (j := 0) hq3 (.int .i64 (v + 1))
    have hY7 := blk_put hY6 0 (.int .i64 (v + 1)) rfl
    have hS7 := Kd.S_set hS6 hY6 (by decide) 0 (.int .i64 (v + 1))
    have y1 := blk_cell (j := 1) (v := .slice (some ⟨g, 0, none⟩) ts.length cap) hY6 rfl
    have y2 := blk_cell (j := 2) (v := .int .i64 nx) hY6 rfl
    have f0 := blk_frozen HX6.out.b2 0
    have f1 := blk_frozen HX6.out.b2 1
    have f2 := blk_frozen HX6.out.b2 2
    have c0 := blk_cell (j := 0) (v := .int .i64 0) HX6.out.b2 rfl
    have c1 := blk_cell (j := 1) (v := .slice none 0 0) HX6.out.b2 rfl
    have c2 := blk_cell (j := 2) (v := .int .i64 0) HX6.out.b2 rfl
    have n1 : m ≠ w.heap.size + 1 := by omega
    have n2 : w.heap.size + 1 ≠ m := by omega
    have hlen : (ts.set k (turnP t 6 elem 1)).length = ts.length := List.length_set
    rw [← hlen] at hS7
    have HFIN := Aside0.mk (And.intro (S_set3 (a := .int .i64 (v + 1)) (b := .slice (some ⟨g, 0, none⟩) ts.length cap) (c := .int .i64 nx) hS7 hX7.b2) (hX7.out (.int .i64 (v + 1)) (.slice (some ⟨g, 0, none⟩) ts.length cap) (.int .i64 nx)))
    rw [hlen] at HFIN
    clear hS6 hT6 HUU hY6 HX5 HY5 hX7 hY7 hS7 hlen
    go_wp2
    refine bodyPost_ret (v := .tuple #[.agg #[.int .i64 (v + 1), .slice (some ⟨g, 0, none⟩) ts.length cap, .int .i64 nx], .int .i64 0]) (by simp [results, Tryd.results32, go_sem, c0, c1, c2, y0, y1, y2]) rfl ?_
    have hfin := tellse_ok (w := w) (R := R) (v := v + 1) (nx := nx) (ts := ts.set k (turnP t 6 elem 1)) (by rw [HR6.out]; simp) (Kd.S_R HFIN.out.1) HFIN.out.2
    exact hfin
end Go.Proofs.YtjgomlcdmpcoaaaDoor.H
namespace Go.Proofs.YtjgomlcdmpcoaaaDoor.H
open Go.RowKit Go.Proofs.YtjgomlcdmpcoaaaDoorW.PrintWords Go.Proofs.YtjgomlcdmpcoaaaDoorW.PrintLast Go.Proofs.YtjgomlcdmpcoaaaDoorW.PrintMore
open Go.Proofs.YtjgomlcdmpcoaaaDoor.D Go.Proofs.YtjgomlcdmpcoaaaDoor
set_option linter.unusedVariables false
set_option linter.unusedSimpArgs false
def xName (n : ByteArray) (x : S98) : Bool := decide (x.f1.toList = n.toList)
def idsOf (cols : List S75) : List ByteArray → Option (List Int)
  | [] => some []
  | n :: r => if idxL (cShown n) cols 0 < 0 then none else (idsOf cols r).map ((rd_T75 cols (idxL (cShown n) cols 0)).f0 :: ·)
def addIndexP (t : S70) (s : S45) : S70 × Int × Int :=
  if nameB s.f2 = false ∨ s.f3.length < 1 ∨ 8 < s.f3.length then (t, 0, 3)
  else if t.f3.any (xName s.f2) = true then (t, 0, 6)
  else if twiceB [] s.f3 = true then (t, 0, 6)
  else match idsOf t.f2 s.f3 with
    | none => (t, 0, 5)
    | some ids => if 4 ≤ t.f3.length ∨ 60000 ≤ t.f4 then (t, 0, 4) else (⟨t.f0, t.f1, t.f2, t.f3 ++ [⟨t.f4, s.f2, ids, s.f7, 1⟩], t.f4 + 1⟩, t.f4, 0)
structure AddSt (w2 wr : World) (n4 : Int) (nm_ : ByteArray) (uq : Bool) (iv : Value) (ids : List Int) : Prop where
  below : Below w2.heap.size w2 wr
  box : wr.heap[w2.heap.size]? = some (.cells #[.int .i64 n4, .string nm_, iv, .bool uq, .int .i64 1] 98 (0, 0))
  row : (Kd.int .i64).R 3 wr w2.heap.size (fun _ => True) iv ids
theorem AddSt.step {w2 wr W : World} {n4 : Int} {nm_ : ByteArray} {uq : Bool} {iv : Value} {ids : List Int} (h : AddSt w2 wr n4 nm_ uq iv ids) (hb : Below wr.heap.size wr W) : AddSt w2 W n4 nm_ uq iv ids :=
  ⟨below_then h.below h.below.size hb, blk_below h.box hb, Kd.R_below h.row hb⟩
theorem AddSt.new (w2 : World) (n4 : Int) (nm_ : ByteArray) (uq : Bool) : AddSt w2 (w2.alloc (.cells #[.int .i64 n4, .string nm_, .slice none 0 0, .bool uq, .int .i64 1] 98)).drew n4 nm_ uq (.slice none 0 0) [] :=
  ⟨below_drew (below_alloc (Below.refl _ _) _), heap_alloc_new w2 _, Kd.R_nil _ _ _ _ _⟩
theorem AddSt.next {w2 wr W W1 : World} {n4 : Int} {nm_ : ByteArray} {uq : Bool} {iv iv1 : Value} {ids : List Int} {x : Int} (h : AddSt w2 wr n4 nm_ uq iv ids) (hb : Below wr.heap.size wr W) (hg : W.grownBy W1 iv.ownBlock) (hr : (Kd.int .i64).R 3 W1 w2.heap.size (fun _ => True) iv1 (ids ++ [x])) :
    AddSt w2 (W1.setCell ⟨w2.heap.size, 2, none⟩ iv1) n4 nm_ uq iv1 (ids ++ [x]) := by
  have h' := h.step hb
  have hx := blk_grown h'.box hg (Kd.R_ne h'.row h'.box (by decide))
  refine ⟨Below.setCell (h'.below.grown hg h'.below.size (Kd.R_base h'.row)) (Nat.le_refl _) _, blk_put hx 2 _ rfl, Kd.R_set hr hx (by decide) 2 _⟩
set_option maxRecDepth 100000 in
set_option maxHeartbeats 4000000 in
theorem addIndex_upd : Upd 62 addIndexP := by
  intro w0 W g n cap ts i oki t cv iv s cs hB hL ht hs hok
  obtain ⟨A3, c3, A4, c4, A5, c5, A6, c6, A9, c9, rfl, l3, g3, -, -, -, -, -, -, -, -⟩ := k45_open hs
  obtain ⟨m2, m3, m4, m5⟩ := tableB_lens ht
  obtain ⟨Ai, ci, hiv⟩ := Kd.R_slice hL.inds
  obtain ⟨Ac, cc, hcv⟩ := Kd.R_slice hL.cols
  subst hiv hcv
  have HC := Aside0.mk g3
  have hl3 := hok.1
  obtain ⟨BX, hBX⟩ : ∃ b : Array Value, b = #[.int .i64 s.f0, .string s.f1, .string s.f2, .slice A3 s.f3.length c3, .slice A4 s.f4.length c4, .slice A5 s.f5.length c5, .slice A6 s.f6.length c6, .bool s.f7, .int .i64 s.f8, .slice A9 s.f9.length c9] := ⟨_, rfl⟩
  have HN := Lib.hid (fun w => rname_calls s.f2 w)
  have HI := Lib.hid (show addIndexP t s = _ by unfold addIndexP; exact rfl)
  have HU := Aside0.mk ((⟨hL, Tch.refl _ _, hB.size⟩ : UpdSt w0 W W g n cap ts i oki t (.slice Ac t.f2.length cc) (.slice Ai t.f3.length ci)).step (below_alloc (Below.refl _ _) (.cells #[.int .i64 s.f0, .string s.f1, .string s.f2, .slice A3 s.f3.length c3, .slice A4 s.f4.length c4, .slice A5 s.f5.length c5, .slice A6 s.f6.length c6, .bool s.f7, .int .i64 s.f8, .slice A9 s.f9.length c9] 45)))
  have HB := Aside0.mk hB
  have HB4 := Aside0.mk (show 1 ≤ t.f4 ∧ t.f4 ≤ 60000 by unfold tableB at ht; simp only [Bool.and_eq_true, decide_eq_true_eq] at ht; exact ⟨ht.1, ht.2.1⟩)
  clear hB hL g3 hs hok
  by_cases hnm : nameB s.f2 = false
  · have hR : addIndexP t s = (t, 0, 3) := by rw [HI.out, if_pos (.inl hnm)]
    rw [hR]
    rw [hnm] at HN
    clear hR hnm HI
    go_enter Tryd.func62, Tryd.ntmps62
    go_wp2_with (go_at_call 34; refine (HN.out _).mono ?_; rintro e w1 ⟨rfl, hb1⟩)
    go_ret2
    exact ⟨rfl, (HU.out.step hb1).done⟩
  have hnm' : nameB s.f2 = true := by simpa using hnm
  rw [hnm'] at HN
  by_cases hl1 : s.f3.length < 1
  · have hR : addIndexP t s = (t, 0, 3) := by rw [HI.out, if_pos (.inr (.inl hl1))]
    rw [hR]
    have hd : decide ((s.f3.length : Int) < 1) = true := decide_eq_true (by omega)
    clear hR hnm hnm' HI hl1
    go_enter Tryd.func62, Tryd.ntmps62
    go_wp2_with (go_at_call 34; refine (HN.out _).mono ?_; rintro e w1 ⟨rfl, hb1⟩; have hx1 := blk_below (heap_alloc_new W (.cells #[.int .i64 s.f0, .string s.f1, .string s.f2, .slice A3 s.f3.length c3, .slice A4 s.f4.length c4, .slice A5 s.f5.length c5, .slice A6 s.f6.length c6, .bool s.f7, .int .i64 s.f8, .slice A9 s.f9.length c9] 45)) hb1; have x3 := blk_cell (j := 3) (v := .slice A3 s.f3.length c3) hx1 rfl; clear hx1)
    go_ret2
    exact ⟨rfl, (HU.out.step hb1).done⟩
  have hd1 : decide ((s.f3.length : Int) < 1) = false := decide_eq_false (by omega)
  by_cases hl8 : 8 < s.f3.length
  · have hR : addIndexP t s = (t, 0, 3) := by rw [HI.out, if_pos (.inr (.inr hl8))]
    rw [hR]
    have hd : decide (8 < (s.f3.length : Int)) = true := decide_eq_true (by omega)
    clear hR hnm hnm' HI hl1 hl8
    go_enter Tryd.func62, Tryd.ntmps62
    go_wp2_with (go_at_call 34; refine (HN.out _).mono ?_; rintro e w1 ⟨rfl, hb1⟩; have hx1 := blk_below (heap_alloc_new W (.cells #[.int .i64 s.f0, .string s.f1, .string s.f2, .slice A3 s.f3.length c3, .slice A4 s.f4.length c4, .slice A5 s.f5.length c5, .slice A6 s.f6.length c6, .bool s.f7, .int .i64 s.f8, .slice A9 s.f9.length c9] 45)) hb1; have x3 := blk_cell (j := 3) (v := .slice A3 s.f3.length c3) hx1 rfl; clear hx1)
    go_ret2
    exact ⟨rfl, (HU.out.step hb1).done⟩
  have hd8 : decide (8 < (s.f3.length : Int)) = false := decide_eq_false (by omega)
  obtain ⟨T, id, er, hTR⟩ : ∃ T id er, addIndexP t s = (T, id, er) := ⟨_, _, _, rfl⟩
  rw [hTR]
  rw [hTR] at HI
  have HI2 := Lib.hid (HI.out.trans (if_neg (show ¬ (nameB s.f2 = false ∨ s.f3.length < 1 ∨ 8 < s.f3.length) from fun h => h.elim hnm (fun h => h.elim hl1 hl8))))
  have hlo : 1 ≤ s.f3.length := by omega
  have hhi : s.f3.length ≤ 8 := by omega
  clear HI hnm hnm' hl1 hl8 hTR
  go_enter Tryd.func62, Tryd.ntmps62
  go_wp2_with (go_at_call 34; refine (HN.out _).mono ?_; rintro e w1 ⟨rfl, hb1⟩; have hx1 := blk_below (heap_alloc_new W (.cells #[.int .i64 s.f0, .string s.f1, .string s.f2, .slice A3 s.f3.length c3, .slice A4 s.f4.length c4, .slice A5 s.f5.length c5, .slice A6 s.f6.length c6, .bool s.f7, .int .i64 s.f8, .slice A9 s.f9.length c9] 45)) hb1; have x3 := blk_cell (j := 3) (v := .slice A3 s.f3.length c3) hx1 rfl; have HX := Aside0.mk hx1; have HU1 := Aside0.mk (HU.out.step hb1); clear hx1 hb1)
  have HX1 := Aside0.mk (show w1.heap[W.heap.size]? = some (.cells BX 45 (0, 0)) by rw [hBX]; exact HX.out)
  clear HX HU x3 HN hd1 hd8
  go_loopg [6] t.f3.length (fun gg u6 wr => ∃ k : Nat, k ≤ t.f3.length ∧ t.f3.length - k ≤ gg ∧ u6 = .int .i64 k ∧ Aside0 (UpdSt w0 W wr g n cap ts i oki t (.slice Ac t.f2.length cc) (.slice Ai t.f3.length ci)) ∧ Aside0 (wr.heap[W.heap.size]? = some (.cells BX 45 (0, 0))) ∧ Aside0 (t.f3.any (xName s.f2) = (t.f3.drop k).any (xName s.f2)))
  case atStart => exact ⟨0, Nat.zero_le _, by omega, rfl, HU1, HX1, ⟨by rw [List.drop_zero]⟩⟩
  case round =>
    clear HU1 HX1
    obtain ⟨k, hk, hgk, rfl, HU, HX, HA⟩ := hrel
    have a3 := HU.out.lent.cell 3 rfl
    have x2 := blk_cell (j := 2) (v := .string s.f2) HX.out (by rw [hBX]; rfl)
    by_cases hlt : k < t.f3.length
    · have hltz : (k : Int) < (t.f3.length : Int) := by omega
      obtain ⟨-, -, hC⟩ := Kd.R_reads' HU.out.lent.inds
      obtain ⟨ae, A5', c5', eA5, e0, e1, e2, e3, e4, -, -⟩ := at_T98 hC (k : Int) (by omega) (by omega)
      have hx : rd_T98 t.f3 (k : Int) = t.f3[k] := rd98 _ _ hlt
      rw [hx] at e0 e1 e2 e3 e4
      simp only [Int.toNat_natCast] at e0 e1 e2 e3 e4
      cases eA5
      have hdr : t.f3.drop k = t.f3[k] :: t.f3.drop (k + 1) := List.drop_eq_getElem_cons hlt
      have hA := HA.out
      rw [hdr, List.any_cons] at hA
      generalize t.f3[k] = x at e0 e1 e2 e3 e4 hA
      clear hdr hx hC HA e0 e2 e3 e4
      by_cases hm : x.f1.toList = s.f2.toList
      · have hq : (x.f1.toList == s.f2.toList) = true := by simpa using hm
        have hxn : xName s.f2 x = true := decide_eq_true hm
        have HR := Lib.hid (show (T, id, er) = (t, 0, 6) by rw [HI2.out, hA, hxn, if_pos (by rfl)])
        clear hA hm hxn
        go_wp2_with fail
        go_quiet (fail)
        go_wp2
        go_ret2
        obtain ⟨rfl, rfl, rfl⟩ : T = t ∧ id = 0 ∧ er = 6 := by have := HR.out; simp only [Prod.mk.injEq] at this; exact this
        exact ⟨rfl, (HU.out.step (pw_below_drewN (Below.refl _ _) _)).done⟩
      · have hq : (x.f1.toList == s.f2.toList) = false := by simpa using hm
        have hxn : xName s.f2 x = false := decide_eq_false hm
        rw [hxn, Bool.false_or] at hA
        have HA := Aside0.mk hA
        clear hA hm hxn
        go_wp2_with fail
        go_quiet (fail)
        go_wp2
        go_roundg (t.f3.length - (k + 1))
        case measure => omega
        case rel => exact ⟨k + 1, by omega, by omega, by go_num, ⟨HU.out.step (pw_below_drewN (Below.refl _ _) _)⟩, ⟨blk_below HX.out (pw_below_drewN (Below.refl _ _) _)⟩, HA⟩
    · have hltz : ¬ (k : Int) < (t.f3.length : Int) := by omega
      have hA := HA.out
      rw [List.drop_eq_nil_of_le (by omega), List.any_nil] at hA
      have HI3 := Lib.hid (HI2.out.trans (by rw [hA, if_neg (by simp)]))
      have x3 := blk_cell (j := 3) (v := .slice A3 s.f3.length c3) HX.out (by rw [hBX]; rfl)
      clear hA HA HI2
      have hBW := Aside0.mk (HB.out.trans HU.out.tch.below)
      go_wp2_with fail
      cases htw : twiceB [] s.f3 with
      | true =>
        refine (rtwice_calls s.f3 (by omega) A3 c3 _ l3 (Kd.C_below HC.out hBW.out)).mono ?_
        rintro e w2 ⟨rfl, hb2⟩
        rw [htw]
        have HR := Lib.hid (show (T, id, er) = (t, 0, 6) by rw [HI3.out, htw, if_pos (by rfl)])
        clear htw
        go_wp2
        go_ret2
        obtain ⟨rfl, rfl, rfl⟩ : T = t ∧ id = 0 ∧ er = 6 := by have := HR.out; simp only [Prod.mk.injEq] at this; exact this
        exact ⟨rfl, (HU.out.step hb2).done⟩
      | false =>
        refine (rtwice_calls s.f3 (by omega) A3 c3 _ l3 (Kd.C_below HC.out hBW.out)).mono ?_
        rintro e w2 ⟨rfl, hb2⟩
        rw [htw]
        have HI4 := Lib.hid (HI3.out.trans (by rw [htw, if_neg (by simp)]))
        have HU2 := Aside0.mk (HU.out.step hb2)
        have HX2 := Aside0.mk (blk_below HX.out hb2)
        have a4 := HU2.out.lent.cell 4 rfl
        have y2 := blk_cell (j := 2) (v := .string s.f2) HX2.out (by rw [hBX]; rfl)
        have y7 := blk_cell (j := 7) (v := .bool s.f7) HX2.out (by rw [hBX]; rfl)
        have hq1 : W.heap.size < w2.heap.size := lt_of_block HX2.out
        obtain ⟨gcs, hgb⟩ := HU2.out.lent.blk
        have hq2 : g < w2.heap.size := lt_of_block hgb
        clear htw hb2 x2 x3 a3 HU HX HI3 hBW hgb
        go_wp2_with fail
        go_region
        go_wp2
        have HS0 := Aside0.mk (AddSt.new w2 t.f4 s.f2 s.f7)
        clear a4 y2 y7
        go_loopg [8] s.f3.length (fun gg u8 wr => ∃ j : Nat, ∃ iv : Value, ∃ ids : List Int, j ≤ s.f3.length ∧ s.f3.length - j ≤ gg ∧ u8 = .int .i64 j ∧ Aside0 (AddSt w2 wr t.f4 s.f2 s.f7 iv ids) ∧ Aside0 (ids.length = j) ∧ Aside0 (idsOf t.f2 s.f3 = (idsOf t.f2 (s.f3.drop j)).map (ids ++ ·)))
        case atStart => exact ⟨0, _, [], Nat.zero_le _, by omega, rfl, HS0, ⟨rfl⟩, ⟨by rw [List.drop_zero]; cases idsOf t.f2 s.f3 <;> rfl⟩⟩
        case round =>
          clear HS0
          obtain ⟨j, iv, ids, hj, hgj, rfl, HS, HJ, HA⟩ := hrel
          obtain ⟨Av, cw, hiv⟩ := Kd.R_slice HS.out.row
          rw [HJ.out] at hiv
          subst hiv
          have HU := Aside0.mk (HU2.out.step HS.out.below)
          have hXr := blk_below HX2.out HS.out.below
          have HX := Aside0.mk hXr
          have x3 := blk_cell (j := 3) (v := .slice A3 s.f3.length c3) hXr (by rw [hBX]; rfl)
          have a2 := HU.out.lent.cell 2 rfl
          clear hXr
          by_cases hlt : j < s.f3.length
          · have hltz : (j : Int) < (s.f3.length : Int) := by omega
            have HBW := Aside0.mk (HB.out.trans HU.out.tch.below)
            obtain ⟨a3', eA3, es⟩ := at_str (Kd.C_below HC.out HBW.out) j hlt
            cases eA3
            have hA := HA.out
            rw [List.drop_eq_getElem_cons hlt] at hA
            generalize s.f3[j] = nme at es hA
            obtain ⟨-, hcc, hC⟩ := Kd.R_reads' HU.out.lent.cols
            have HCC := Aside0.mk hC
            clear HA hC
            rcases idxL_at (cShown nme) t.f2 with hix | ⟨k', hk', hix, -⟩
            · have HR := Lib.hid (show (T, id, er) = (t, 0, 5) by rw [HI4.out, hA]; unfold idsOf; rw [hix]; rfl)
              have HQ := Lib.hid (fun W' (hb : Below wr.heap.size wr W') => rshown_calls t.f2 (by omega) nme Ac cc W' (by omega) (Kd.C_below HCC.out hb))
              rw [hix] at HQ
              clear hA hix
              go_wp2_with fail
              go_quiet ((go_at_call 117; exact Calls.quiet_of (HQ.out _ (pw_below_drewN (Below.refl _ _) _))))
              go_wp2
              go_ret2
              obtain ⟨rfl, rfl, rfl⟩ : T = t ∧ id = 0 ∧ er = 5 := by have := HR.out; simp only [Prod.mk.injEq] at this; exact this
              exact ⟨rfl, (HU.out.step (pw_below_drewN (Below.refl _ _) _)).done⟩
            · obtain ⟨ac, eA, h0, -⟩ := at_T75 HCC.out (k' : Int) (by omega) (by omega)
              have hkr := rd75 _ _ hk'
              have hA2 : idsOf t.f2 s.f3 = (idsOf t.f2 (s.f3.drop (j + 1))).map ((ids ++ [(rd_T75 t.f2 (k' : Int)).f0]) ++ ·) := by
                rw [hA]
                show (if idxL (cShown nme) t.f2 0 < 0 then none else (idsOf t.f2 (s.f3.drop (j + 1))).map ((rd_T75 t.f2 (idxL (cShown nme) t.f2 0)).f0 :: ·)).map (ids ++ ·) = _
                rw [hix, if_neg (by omega)]
                cases idsOf t.f2 (s.f3.drop (j + 1)) <;> simp
              have HQ := Lib.hid (fun W' (hb : Below wr.heap.size wr W') => rshown_calls t.f2 (by omega) nme Ac cc W' (by omega) (Kd.C_below HCC.out hb))
              rw [hix] at HQ
              have hk2 : (k' : Int) < (t.f2.length : Int) := by omega
              have hk0 : (0 : Int) ≤ (k' : Int) := by omega
              cases eA
              generalize (rd_T75 t.f2 (k' : Int)).f0 = ik at h0 hA2
              simp only [Int.toNat_natCast] at h0
              have HA := Aside0.mk hA2
              have HE0 := Aside0.mk h0
              clear hA hA2 hix hkr h0
              go_wp2_with fail
              go_quiet ((go_at_call 117; exact Calls.quiet_of (HQ.out _ (pw_below_drewN (Below.refl _ _) _))))
              rename_i nq
              have hbq : Below wr.heap.size wr (wr.drewN nq) := pw_below_drewN (Below.refl _ _) _
              have HSq := Aside0.mk (HS.out.step hbq)
              have hUq := HU.out.step hbq
              have hXq := blk_below HX.out hbq
              have e0 := pw_cell_below hbq HE0.out
              clear a2 x3 es HQ HE0 HS HU HX HCC
              generalize wr.drewN nq = wq at hbq HSq hUq hXq e0 ⊢
              have b2 := blk_cell (j := 2) (v := .slice Av j cw) HSq.out.box rfl
              have a2 := hUq.lent.cell 2 rfl
              have q1 : w2.heap.size < wq.heap.size := lt_of_block HSq.out.box
              have q2 : g < wq.heap.size := World.block_lt_of_cell? wq _ a2
              have q3 : (ac.add (k' * 9)).block < wq.heap.size := World.block_lt_of_cell? wq _ e0
              have HUq := Aside0.mk hUq
              have HXq := Aside0.mk hXq
              have HBQ := Aside0.mk hbq
              clear hUq hXq hbq
              go_wp2_with fail
              go_region_law
                ((refine step_R (Kd.int .i64) (by rfl) (.tmp 78) (.tmp 87) 40 3 (.int .i64 0) 8 (by rfl) Tryd.underlying40 info3 (by rfl) (by decide) (by decide) w2.heap.size (.slice Av j cw) ids ik [.int .i64 ik] (fun _ => True) (fun _ => False) (by rfl) (by repeat (first | exact HSq.out.row | refine Kd.R_drew ?_ | refine Kd.R_alloc ?_ _)) ⟨wq.heap.size, 0, none⟩ (by rfl) (World.news_of_block (cs := #[_]) (t := 3) (fr := (0, 0)) (heap_alloc_new wq _)) rfl (fun _ h => h.elim) (fun _ _ => trivial) (by simp; omega) (by rw [HJ.out]; omega) ?_; intro A1 c1 w1 hr hg1; have hx1 := (hg1.block w2.heap.size (Nat.lt_of_lt_of_le q1 (by simp)) (Kd.R_ne HSq.out.row HSq.out.box (by decide))).trans (blk_alloc HSq.out.box (.cells #[.int .i64 ik] 3)); have d1 := blk_cell (j := 2) (v := .slice Av j cw) hx1 rfl; have f1 := blk_frozen hx1 2))
              all_goals
                have hst := HSq.out.next (below_drew (below_alloc (Below.refl _ _) _)) hg1 hr
                have HN2 := Aside0.mk hst
                clear hst hr hg1 hx1 d1 f1 e0 b2 a2
                go_wp2
                go_roundg (s.f3.length - (j + 1))
                case measure => omega
                case rel => exact ⟨j + 1, _, ids ++ [ik], by omega, by omega, by go_num, HN2, ⟨by rw [List.length_append, HJ.out]; rfl⟩, HA⟩
          · have hltz : ¬ (j : Int) < (s.f3.length : Int) := by omega
            have hA := HA.out
            rw [List.drop_eq_nil_of_le (by omega)] at hA
            have hA2 : idsOf t.f2 s.f3 = some ids := by rw [hA]; simp [idsOf]
            have HI5 := Lib.hid (HI4.out.trans (by rw [hA2]))
            have a3 := HU.out.lent.cell 3 rfl
            have a4 := HU.out.lent.cell 4 rfl
            clear hA hA2 HA HI4 a2
            by_cases h4 : 4 ≤ t.f3.length
            · have hd : decide ((4 : Int) ≤ (t.f3.length : Int)) = true := decide_eq_true (by omega)
              have HR := Lib.hid (show (T, id, er) = (t, 0, 4) by rw [HI5.out]; exact if_pos (.inl h4))
              clear h4
              go_wp2
              go_ret2
              obtain ⟨rfl, rfl, rfl⟩ : T = t ∧ id = 0 ∧ er = 4 := by have := HR.out; simp only [Prod.mk.injEq] at this; exact this
              exact ⟨rfl, HU.out.done⟩
            · have hd : decide ((4 : Int) ≤ (t.f3.length : Int)) = false := decide_eq_false (by omega)
              by_cases h6 : 60000 ≤ t.f4
              · have HR := Lib.hid (show (T, id, er) = (t, 0, 4) by rw [HI5.out]; exact if_pos (.inr h6))
                have hd6 : decide (60000 ≤ t.f4) = true := decide_eq_true h6
                clear h4 h6
                go_wp2
                go_ret2
                obtain ⟨rfl, rfl, rfl⟩ : T = t ∧ id = 0 ∧ er = 4 := by have := HR.out; simp only [Prod.mk.injEq] at this; exact this
                exact ⟨rfl, HU.out.done⟩
              · have HI6 := Lib.hid (HI5.out.trans (if_neg (show ¬ (4 ≤ t.f3.length ∨ 60000 ≤ t.f4) by omega)))
                have hd6 : decide (60000 ≤ t.f4) = false := decide_eq_false h6
                have hn0 := HB4.out
                have f4 := HU.out.lent.frozen (i * 5 + 4)
                have hUn := HU.out.setN (t.f4 + 1) rfl
                obtain ⟨gc', hgb'⟩ := HU.out.lent.blk
                have hne : w2.heap.size ≠ g := by omega
                have hxn := blk_far HS.out.box (p := ⟨g, i * 5 + 4, none⟩) hne (.int .i64 (t.f4 + 1))
                have hrn := Kd.R_set HS.out.row hgb' (by decide) (i * 5 + 4) (.int .i64 (t.f4 + 1))
                have hzn : w2.heap.size < (wr.setCell ⟨g, i * 5 + 4, none⟩ (.int .i64 (t.f4 + 1))).heap.size := lt_of_block hxn
                have hgn : g < (wr.setCell ⟨g, i * 5 + 4, none⟩ (.int .i64 (t.f4 + 1))).heap.size := by have := lt_of_block hgb'; simpa [World.setCell] using this
                clear HI5 h4 h6
                go_wp2_with fail
                clear f4 a3 a4 x3 hd hd6 hgb'
                generalize wr.setCell ⟨g, i * 5 + 4, none⟩ (.int .i64 (t.f4 + 1)) = wn at hUn hxn hrn hzn hgn ⊢
                have a3 := hUn.lent.cell 3 rfl
                have x0 := blk_cell (j := 0) (v := .int .i64 t.f4) hxn rfl
                have x1 := blk_cell (j := 1) (v := .string s.f2) hxn rfl
                have x2 := blk_cell (j := 2) (v := .slice Av j cw) hxn rfl
                have x3 := blk_cell (j := 3) (v := .bool s.f7) hxn rfl
                have x4 := blk_cell (j := 4) (v := .int .i64 1) hxn rfl
                have HUn := Aside0.mk hUn
                have HXn := Aside0.mk hxn
                have HRn := Aside0.mk hrn
                have HM := Aside0.mk (k98_mkM wn w0.heap.size (fun k => w2.heap.size ≤ k) ⟨t.f4, s.f2, ids, s.f7, 1⟩ (Kd.R_lower (Kd.R_mono (Kd.R_bound hrn) (fun k hk => hk.2.1)) (Nat.le_trans HU2.out.base HU2.out.tch.size)))
                have HBZ := Aside0.mk (Nat.le_trans hUn.base hUn.tch.size)
                clear hUn hxn hrn
                go_region_law
                  ((refine step_R k98 (by rfl) (.tmp 114) (.tmp 116) 68 98 (.agg #[(.int .i64 0), (.string ⟨#[]⟩), (.slice none 0 0), (.bool false), (.int .i64 0)]) 64 (by rfl) Tryd.underlying68 info98 (by rfl) (by decide) (by decide) w0.heap.size (.slice Ai t.f3.length ci) t.f3 (⟨t.f4, s.f2, ids, s.f7, 1⟩ : S98) [.int .i64 t.f4, .string s.f2, .slice Av j cw, .bool s.f7, .int .i64 1] oki (fun k => w2.heap.size ≤ k) (by rfl) (by repeat (first | exact HUn.out.lent.inds | refine Kd.R_drew ?_ | refine Kd.R_alloc ?_ _)) ⟨wn.heap.size, 0, none⟩ (by rfl) (World.news_of_block (cs := #[_, _, _, _, _]) (t := 98) (fr := (0, 0)) (heap_alloc_new wn _)) (by repeat (first | exact HM.out | refine k98.M_below ?_ (below_drew (Below.refl _ _)) | refine k98.M_below ?_ (below_alloc (Below.refl _ _) _))) (fun k hk => ⟨HU2.out.lent.fresh k hk, fun he => Nat.not_lt_of_le hk (Kd.R_lt HU2.out.lent.inds k he.symm)⟩) (fun k hk => HUn.out.lent.fresh k (Nat.le_trans (by simp) hk)) (Nat.le_trans HBZ.out (by simp)) (by omega) ?_; intro A1 c1 w1 hr hg1; have hx1 : w1.heap[g]? = wn.heap[g]? := (hg1.block g (Nat.lt_of_lt_of_le hgn (by simp)) (fun e => HUn.out.lent.oki_ne g (HUn.out.lent.inds.1 g e.symm) rfl)).trans (heap_alloc_old wn _ hgn); have d1 := (cell_same (a := ⟨g, i * 5 + 3, none⟩) hx1).trans a3; have f1 := (frozen_same (a := ⟨g, i * 5 + 3, none⟩) hx1).trans (HUn.out.lent.frozen _); have hy1 := (hg1.block w2.heap.size (Nat.lt_of_lt_of_le hzn (by simp)) (fun he => Nat.lt_irrefl _ (Kd.R_lt HU2.out.lent.inds w2.heap.size he.symm))).trans (blk_alloc HXn.out _); have d0 := blk_cell (j := 0) (v := .int .i64 t.f4) hy1 rfl))
                all_goals
                  have HF := Aside0.mk ((HUn.out.step (below_drew (below_alloc (Below.refl _ _) _))).setI hg1 hr rfl)
                  clear hr hg1 hx1 hy1 a3 x0 x1 x2 x3 x4
                  go_wp2
                  go_ret2
                  obtain ⟨rfl, rfl, rfl⟩ : T = _ ∧ id = t.f4 ∧ er = 0 := by have := HI6.out; simp only [Prod.mk.injEq] at this; exact this
                  exact ⟨rfl, HF.out.done⟩
end Go.Proofs.YtjgomlcdmpcoaaaDoor.H
namespace Go.Proofs.YtjgomlcdmpcoaaaDoor.H
open Go.RowKit Go.Proofs.YtjgomlcdmpcoaaaDoorW.PrintWords Go.Proofs.YtjgomlcdmpcoaaaDoorW.PrintLast Go.Proofs.YtjgomlcdmpcoaaaDoorW.PrintMore
open Go.Proofs.YtjgomlcdmpcoaaaDoor.D Go.Proofs.YtjgomlcdmpcoaaaDoor
set_option linter.unusedVariables false
set_option linter.unusedSimpArgs false
theorem C_strs {w : World} {b : Nat} {t : TypeId} {l : List ByteArray} (h : w.heap[b]? = some (.cells (l.map Value.string).toArray t (0, 0))) (hl : l.length ≤ 1000) : Kd.string.C w (some ⟨b, 0, none⟩) l.length l := by
  refine ⟨rfl, by omega, fun _ => ⟨_, rfl, fun j p hj => ⟨[.string p], rfl, rfl, fun i u hu => ?_⟩⟩⟩
  have hi : i = 0 := by have := (List.getElem?_eq_some_iff.1 hu).1; simp at this; omega
  subst hi
  have hu' : u = .string p := by simpa using hu.symm
  subst hu'
  rw [show (Kd.string.sz) = 1 from rfl, Nat.mul_one, Nat.add_zero, show (⟨b, 0, none⟩ : Addr).add j = ⟨b, j, none⟩ by unfold Addr.add; by_cases hj : j = 0 <;> simp [hj]]
  exact blk_cell h (by simp [hj])
theorem C_ints {w : World} {b : Nat} {t : TypeId} {l : List Int} (h : w.heap[b]? = some (.cells (l.map (Value.int .i64)).toArray t (0, 0))) (hl : l.length ≤ 1000) : (Kd.int .i64).C w (some ⟨b, 0, none⟩) l.length l := by
  refine ⟨rfl, by omega, fun _ => ⟨_, rfl, fun j p hj => ⟨[.int .i64 p], rfl, rfl, fun i u hu => ?_⟩⟩⟩
  have hi : i = 0 := by have := (List.getElem?_eq_some_iff.1 hu).1; simp at this; omega
  subst hi
  have hu' : u = .int .i64 p := by simpa using hu.symm
  subst hu'
  rw [show ((Kd.int .i64).sz) = 1 from rfl, Nat.mul_one, Nat.add_zero, show (⟨b, 0, none⟩ : Addr).add j = ⟨b, j, none⟩ by unfold Addr.add; by_cases hj : j = 0 <;> simp [hj]]
  exact blk_cell h (by simp [hj])
def tA : S75 := ⟨1, ⟨#[97]⟩, 2, 4, 4, z73⟩
def tB : S75 := ⟨2, ⟨#[98]⟩, 5, 4, 0, z73⟩
def tT (ix : List S98) (n : Int) : S70 := ⟨1, ⟨#[116]⟩, [tA, tB], ix, n⟩
def sT : S45 := ⟨5, ⟨#[116]⟩, ⟨#[]⟩, [⟨#[97]⟩, ⟨#[98]⟩], [], [], [], false, 0, [2, 5]⟩
def sI : S45 := ⟨6, ⟨#[116]⟩, ⟨#[105]⟩, [⟨#[98]⟩], [], [], [], false, 0, []⟩
def xI (st : Int) : S98 := ⟨3, ⟨#[105]⟩, [2], false, st⟩
theorem awake_create : createP 0 [] 0 sT = ⟨1, [tT [] 3], 2, 0, 0, 0⟩ := by kernel_rfl
theorem awake_begin : beginP addIndexP 1 [tT [] 3] 2 sI = ⟨2, [tT [xI 1] 4], 2, 1, 3, 0⟩ := by kernel_rfl
theorem awake_step : stepP 2 [tT [xI 1] 4] 2 6 1 3 true = ⟨3, [tT [xI 2] 4], 2, 0, 0, 0⟩ := by kernel_rfl
theorem awake_sch : schB 3 [tT [xI 2] 4] 2 = true := by kernel_rfl
theorem awake_job : jobB 1 6 1 3 1 ⟨#[]⟩ false = true := by kernel_rfl
theorem awake_wf (ix : List S98) (n : Int) (h : ∀ x ∈ ix, IndWf x) : ∀ t ∈ [tT ix n], TabWf t := by
  intro t ht
  rw [List.mem_singleton.1 ht]
  refine ⟨by show (1 : Nat) ≤ maxLen; decide, fun c hc => ?_, h⟩
  rcases List.mem_cons.1 hc with rfl | hc
  · exact ⟨by decide, by decide, by decide, by decide, by decide⟩
  · rw [List.mem_singleton.1 hc]
    exact ⟨by decide, by decide, by decide, by decide, by decide⟩
theorem sT_K (w : World) : k45.K ((w.alloc (.cells #[.string ⟨#[97]⟩, .string ⟨#[98]⟩] 9)).alloc (.cells #[.int .i64 2, .int .i64 5] 3)) sT [.int .i64 5, .string ⟨#[116]⟩, .string ⟨#[]⟩, .slice (some ⟨w.heap.size, 0, none⟩) 2 2, .slice none 0 0, .slice none 0 0, .slice none 0 0, .bool false, .int .i64 0, .slice (some ⟨w.heap.size + 1, 0, none⟩) 2 2] := by
  have h1 := blk_alloc (heap_alloc_new w (.cells #[.string ⟨#[97]⟩, .string ⟨#[98]⟩] 9)) (.cells #[.int .i64 2, .int .i64 5] 3)
  have h2 := heap_alloc_new (w.alloc (.cells #[.string ⟨#[97]⟩, .string ⟨#[98]⟩] 9)) (.cells #[.int .i64 2, .int .i64 5] 3)
  rw [show (w.alloc (.cells #[.string ⟨#[97]⟩, .string ⟨#[98]⟩] 9)).heap.size = w.heap.size + 1 by simp] at h2
  exact k45_mk _ sT (Nat.le_refl _) (C_strs (l := [⟨#[97]⟩, ⟨#[98]⟩]) h1 (by decide)) (Nat.le_refl _) (nil_C _ _) (Nat.le_refl _) (nil_C _ _) (Nat.le_refl _) (nil_C _ _) (Nat.le_refl _) (C_ints (l := [2, 5]) h2 (by decide))
theorem sI_K (w : World) : k45.K (w.alloc (.cells #[.string ⟨#[98]⟩] 9)) sI [.int .i64 6, .string ⟨#[116]⟩, .string ⟨#[105]⟩, .slice (some ⟨w.heap.size, 0, none⟩) 1 1, .slice none 0 0, .slice none 0 0, .slice none 0 0, .bool false, .int .i64 0, .slice none 0 0] :=
  k45_mk _ sI (Nat.le_refl _) (C_strs (l := [⟨#[98]⟩]) (heap_alloc_new w (.cells #[.string ⟨#[98]⟩] 9)) (by decide)) (Nat.le_refl _) (nil_C _ _) (Nat.le_refl _) (nil_C _ _) (Nat.le_refl _) (nil_C _ _) (Nat.le_refl _) (nil_C _ _)
theorem sT_ok : StmtOk sT := ⟨by decide, by decide, by decide, by decide, by decide⟩
theorem sI_ok : StmtOk sI := ⟨by decide, by decide, by decide, by decide, by decide⟩
theorem awake_val (ix : List S98) (n : Int) : ∀ t ∈ [tT ix n], ∀ c ∈ t.f2, ValWf c.f5 := by
  intro t ht c hc
  rw [List.mem_singleton.1 ht] at hc
  rcases List.mem_cons.1 hc with rfl | hc
  · exact ⟨by decide, by decide⟩
  · rw [List.mem_singleton.1 hc]
    exact ⟨by decide, by decide⟩
theorem xI_wf (st : Int) : ∀ x ∈ [xI st], IndWf x := by
  intro x hx
  rw [List.mem_singleton.1 hx]
  exact ⟨show (-9223372036854775808 : Int) ≤ 3 by decide, show (3 : Int) < 9223372036854775808 by decide, show (1 : Nat) ≤ maxLen by decide⟩
set_option maxHeartbeats 1000000 in
theorem num24_calls (n : Int) (w : World) : Calls Tryd.prog 28 #[.int .i64 n] w fun e w' => e = .returned (.int .i64 n) ∧ w = w' := by
  go_enter Tryd.func28, Tryd.ntmps28
  go_wp2
  go_ret
  exact ⟨rfl, rfl⟩
set_option maxRecDepth 100000 in
set_option maxHeartbeats 4000000 in
theorem awake24_calls (w : World) (hG : GL w) : Calls Tryd.prog 24 #[] w fun e w' => e = .returned (.bool true) ∧ Below w.heap.size w w' := by
  obtain ⟨w0, hw0⟩ : ∃ w0, w0 = (w.alloc (.cells #[.string ⟨#[97]⟩, .string ⟨#[98]⟩] 9)).alloc (.cells #[.int .i64 2, .int .i64 5] 3) := ⟨_, rfl⟩
  have hb0 : Below w.heap.size w w0 := by rw [hw0]; exact below_alloc (below_alloc (Below.refl _ _) _) _
  have hk := sT_K w
  rw [← hw0] at hk
  have H1 := Lib.hid (create_calls 0 [] 0 sT (by decide) (fun t ht => by cases ht) none 0 w0 (Nat.le_refl _) (nil_C _ _) _ hk sT_ok)
  rw [awake_create, hw0] at H1
  rw [hw0] at hb0
  have HB0 := Aside0.mk hb0
  have HG := Aside0.mk hG
  clear hk hb0 hG hw0
  go_enter Tryd.func24, Tryd.ntmps24
  go_wp2_with fail
  refine H1.out.mono ?_
  rintro e w1 ⟨A1, c1, he, r1, hb1⟩
  have he' : e = .returned (.tuple #[.agg #[.int .i64 1, .slice A1 1 c1, .int .i64 2], .int .i64 0]) := he
  subst he'
  have r1' : k70.R 70 w1 _ (fun _ => True) (.slice A1 1 c1) [tT [] 3] := r1
  obtain ⟨-, l1', g1'⟩ := Kd.R_reads' r1'
  have HB1 := Aside0.mk (below_then HB0.out (by simp; omega) hb1)
  have HX1 := Aside0.mk (blk_alloc (heap_alloc_new w1 (.cells #[.int .i64 1, .slice A1 1 c1, .int .i64 2] 28)) (.cells #[.string ⟨#[98]⟩] 9))
  have hb2 := below_alloc (Below.refl _ w1) (.cells #[.int .i64 1, .slice A1 1 c1, .int .i64 2] 28)
  have hb3 := below_alloc hb2 (.cells #[.string ⟨#[98]⟩] 9)
  have HB3 := Aside0.mk (below_then HB1.out HB1.out.size hb3)
  have H2 := Lib.hid (begin_of 62 addIndexP addIndex_upd 1 [tT [] 3] 2 sI (.inl ⟨rfl, rfl⟩) (by decide) (awake_val _ _) A1 c1 _ l1' (Kd.C_below g1' hb3) _ (sI_K (w1.alloc (.cells #[.int .i64 1, .slice A1 1 c1, .int .i64 2] 28))) sI_ok)
  rw [awake_begin, show (w1.alloc (.cells #[.int .i64 1, .slice A1 1 c1, .int .i64 2] 28)).heap.size = w1.heap.size + 1 by simp] at H2
  clear he r1 r1' hb1 g1' hb2 hb3 H1 HB0
  go_wp2_with fail
  refine H2.out.mono ?_
  rintro e w2 ⟨A2, c2, he, r2, hb2⟩
  have he' : e = .returned (.tuple #[.agg #[.int .i64 2, .slice A2 1 c2, .int .i64 2], .int .i64 1, .int .i64 3, .int .i64 0]) := he
  subst he'
  have r2' : k70.R 70 w2 _ (fun _ => True) (.slice A2 1 c2) [tT [xI 1] 4] := r2
  have HB4 := Aside0.mk (below_then HB3.out HB3.out.size hb2)
  have hx2 := blk_below HX1.out hb2
  have a0 := blk_cell (j := 0) (v := .int .i64 1) hx2 rfl
  have a1 := blk_cell (j := 1) (v := .slice A1 1 c1) hx2 rfl
  have a2 := blk_cell (j := 2) (v := .int .i64 2) hx2 rfl
  have f0 := blk_frozen hx2 0
  have f1 := blk_frozen hx2 1
  have f2 := blk_frozen hx2 2
  have HR2 := Aside0.mk (R_set3 (a := .int .i64 2) (b := .slice A2 1 c2) (c := .int .i64 2) r2' hx2)
  obtain ⟨wy, hwy⟩ : ∃ wy, wy = ((w2.setCell ⟨w1.heap.size, 0, none⟩ (.int .i64 2)).setCell ⟨w1.heap.size, 1, none⟩ (.slice A2 1 c2)).setCell ⟨w1.heap.size, 2, none⟩ (.int .i64 2) := ⟨_, rfl⟩
  have hy : wy.heap[w1.heap.size]? = some (.cells #[.int .i64 2, .slice A2 1 c2, .int .i64 2] 28 (0, 0)) := by rw [hwy]; exact blk_put (blk_put (blk_put hx2 0 _ rfl) 1 _ rfl) 2 _ rfl
  obtain ⟨-, l2', g2'⟩ := Kd.R_reads' HR2.out
  rw [← hwy] at g2'
  have HWY := Lib.hid hwy
  have HY := Aside0.mk hy
  have hby : Below w.heap.size w wy := by
    rw [hwy]
    exact ((HB4.out.setCell (show w.heap.size ≤ w1.heap.size from HB1.out.size) _).setCell (show w.heap.size ≤ w1.heap.size from HB1.out.size) _).setCell (show w.heap.size ≤ w1.heap.size from HB1.out.size) _
  have HBY := Aside0.mk hby
  have H3 := Lib.hid (step6_calls 2 [tT [xI 1] 4] 2 1 3 (by decide) (awake_val _ _) A2 c2 wy l2' g2')
  rw [awake_step] at H3
  clear he r2 r2' H2 HX1 HB3 HR2 hwy g2' hby
  go_wp2_with fail
  rw [← HWY.out]
  refine H3.out.mono ?_
  rintro e w3 ⟨A3, c3, he, r3, hb5⟩
  have he' : e = .returned (.tuple #[.agg #[.int .i64 3, .slice A3 1 c3, .int .i64 2], .int .i64 0]) := he
  subst he'
  have r3' : k70.R 70 w3 _ (fun _ => True) (.slice A3 1 c3) [tT [xI 2] 4] := r3
  have HB5 := Aside0.mk (below_then HBY.out HBY.out.size hb5)
  have hx3 := blk_below HY.out hb5
  have a0 := blk_cell (j := 0) (v := .int .i64 2) hx3 rfl
  have a1 := blk_cell (j := 1) (v := .slice A2 1 c2) hx3 rfl
  have a2 := blk_cell (j := 2) (v := .int .i64 2) hx3 rfl
  have f0 := blk_frozen hx3 0
  have f1 := blk_frozen hx3 1
  have f2 := blk_frozen hx3 2
  have HR3 := Aside0.mk (R_set3 (a := .int .i64 3) (b := .slice A3 1 c3) (c := .int .i64 2) r3' hx3)
  obtain ⟨wz, hwz⟩ : ∃ wz, wz = ((w3.setCell ⟨w1.heap.size, 0, none⟩ (.int .i64 3)).setCell ⟨w1.heap.size, 1, none⟩ (.slice A3 1 c3)).setCell ⟨w1.heap.size, 2, none⟩ (.int .i64 2) := ⟨_, rfl⟩
  have hz : wz.heap[w1.heap.size]? = some (.cells #[.int .i64 3, .slice A3 1 c3, .int .i64 2] 28 (0, 0)) := by rw [hwz]; exact blk_put (blk_put (blk_put hx3 0 _ rfl) 1 _ rfl) 2 _ rfl
  obtain ⟨-, l3', g3'⟩ := Kd.R_reads' HR3.out
  rw [← hwz] at g3'
  have hbz : Below w.heap.size w wz := by
    rw [hwz]
    exact ((HB5.out.setCell (show w.heap.size ≤ w1.heap.size from HB1.out.size) _).setCell (show w.heap.size ≤ w1.heap.size from HB1.out.size) _).setCell (show w.heap.size ≤ w1.heap.size from HB1.out.size) _
  have HWZ := Lib.hid hwz
  have HZ := Aside0.mk hz
  have HBZ := Aside0.mk hbz
  have HG3 := Aside0.mk g3'
  obtain ⟨ad, rfl⟩ : ∃ ad, A3 = some ad := by obtain ⟨ad, h, -⟩ := g3'.2.2 (by decide); exact ⟨ad, h⟩
  have H4 := Lib.hid (next_fill 3 2 [tT [xI 2] 4] (awake_wf _ _ (xI_wf _)) ad c3 0 0 1 3 wz (HG.out.of_below hbz) g3' awake_sch awake_job (by rfl) (by decide) (by rfl) (by decide) (by rfl))
  clear he r3 r3' H3 HB4 HY HR3 hwz g3' hbz HWY HBY hy
  go_wp2_with fail
  rw [← HWZ.out]
  refine H4.out.mono ?_
  rintro e w4 ⟨he, hb6⟩
  subst he
  have HB6 := Aside0.mk (below_then HBZ.out HBZ.out.size hb6)
  have H5 := Lib.hid (num24_calls 0 w4)
  clear hb6 H4
  go_wp2_with fail
  refine H5.out.mono ?_
  rintro e w5 ⟨he, rfl⟩
  subst he
  go_wp2_with fail
  go_ret
  exact ⟨rfl, HB6.out⟩
end Go.Proofs.YtjgomlcdmpcoaaaDoor.H
namespace Go.Proofs.YtjgomlcdmpcoaaaDoor.H
open Go.RowKit Go.Proofs.YtjgomlcdmpcoaaaDoorW.PrintWords Go.Proofs.YtjgomlcdmpcoaaaDoorW.PrintLast Go.Proofs.YtjgomlcdmpcoaaaDoorW.PrintMore
open Go.Proofs.YtjgomlcdmpcoaaaDoor.D Go.Proofs.YtjgomlcdmpcoaaaDoor
set_option linter.unusedVariables false
set_option linter.unusedSimpArgs false
set_option maxRecDepth 100000 in
set_option maxHeartbeats 4000000 in
theorem colOf_no (E : Nat) (pa : Addr) (sp : Value) (at0 : Int) (ix0 rl0 : Bool) (xs : List S75) (A : Option Addr) (c : Nat) (id : Int) (rule : Bool) (w : World) (hE : w.heap[E]? = some (.cells #[.pointer (some pa), sp, .int .i64 at0, .bool ix0, .bool rl0] 148 (0, 0)))
    (hp : w.cell? ⟨pa.block, pa.off + 2, none⟩ = some (.slice A xs.length c)) (hC : k75.C w A xs.length xs) (hpE : pa.block ≠ E) (hk : idxL (cId id) xs 0 = -1) :
    Calls Tryd.prog 175 #[.pointer (some ⟨E, 0, none⟩), .int .i64 id, .bool rule] w fun e w' => e = .returned (.bool false) ∧ Below E w w' := by
  have hEl := blk_lt hE
  have HX := Aside0.mk (blk_alloc hE (.cells #[.int .i64 id] 3))
  have hmf : ∀ (fn : Fn) (first cap : Array Value) (w : World), (Instr.makeFunc fn first cap).run Tryd.prog w = .ok (.func fn first cap) w := fun _ _ _ _ => rfl
  have e0 := blk_cell (j := 0) (v := .pointer (some pa)) hE rfl
  have HQ := Lib.hid (idx75 180 #[.pointer (some ⟨w.heap.size, 0, none⟩)] enters180 (fun x => x.f0 == id) A c xs (w.alloc (.cells #[.int .i64 id] 3)) (Kd.C_below hC (below_alloc (Below.refl _ _) _)) (pred180 id w.heap.size _ (by simp) (blk_cell (heap_alloc_new w (.cells #[.int .i64 id] 3)) rfl)))
  rw [idxL_same (fun x : S75 => x.f0 == id) (cId id) (fun x => by unfold cId; rfl), hk] at HQ
  have hl := World.block_lt_of_cell? w _ hp
  clear hC hk
  go_enter Tryd.func175, Tryd.ntmps175
  go_wp2_with fail
  refine HQ.out.mono ?_
  rintro e w1 ⟨rfl, hb1⟩
  have hx1 := blk_below HX.out hb1
  have c2 := blk_cell (j := 2) (v := .int .i64 at0) hx1 rfl
  have f2 := blk_frozen hx1 2
  have hbb : Below E w (w1.setCell ⟨E, 2, none⟩ (.int .i64 (-1))) := Below.setCell (p := ⟨E, 2, none⟩) (((below_alloc (Below.refl _ w) (.cells #[.int .i64 id] 3)).trans (hb1.mono (by simp))).mono (Nat.le_of_lt hEl)) (Nat.le_refl _) _
  have HB := Aside0.mk hbb
  clear hx1 hbb hb1 e0 hE
  go_wp2
  go_ret
  exact ⟨rfl, HB.out⟩
set_option maxRecDepth 100000 in
set_option maxHeartbeats 4000000 in
theorem colOf_yes (E : Nat) (pa : Addr) (sp : Value) (at0 : Int) (ix0 rl0 : Bool) (xs : List S75) (ad : Addr) (c : Nat) (id : Int) (rule : Bool) (k : Nat) (w : World) (hE : w.heap[E]? = some (.cells #[.pointer (some pa), sp, .int .i64 at0, .bool ix0, .bool rl0] 148 (0, 0))) (hsp : sp = .pointer none)
    (hp : w.cell? ⟨pa.block, pa.off + 2, none⟩ = some (.slice (some ad) xs.length c)) (hC : k75.C w (some ad) xs.length xs) (hpE : pa.block ≠ E) (hk : idxL (cId id) xs 0 = (k : Int)) (hkl : k < xs.length) :
    Calls Tryd.prog 175 #[.pointer (some ⟨E, 0, none⟩), .int .i64 id, .bool rule] w fun e w' => e = .returned (.bool true) ∧ Below E w w' ∧ ElemOk E pa ⟨(ad.add (k * 9)).block, (ad.add (k * 9)).off + (if rule = true then 4 else 3), none⟩ k ix0 rule w' := by
  obtain ⟨A, hA⟩ : ∃ A, A = some ad := ⟨_, rfl⟩
  rw [← hA] at hp hC
  have hEl := blk_lt hE
  have HX := Aside0.mk (blk_alloc hE (.cells #[.int .i64 id] 3))
  have hmf : ∀ (fn : Fn) (first cap : Array Value) (w : World), (Instr.makeFunc fn first cap).run Tryd.prog w = .ok (.func fn first cap) w := fun _ _ _ _ => rfl
  have e0 := blk_cell (j := 0) (v := .pointer (some pa)) hE rfl
  have HQ := Lib.hid (idx75 180 #[.pointer (some ⟨w.heap.size, 0, none⟩)] enters180 (fun x => x.f0 == id) A c xs (w.alloc (.cells #[.int .i64 id] 3)) (Kd.C_below hC (below_alloc (Below.refl _ _) _)) (pred180 id w.heap.size _ (by simp) (blk_cell (heap_alloc_new w (.cells #[.int .i64 id] 3)) rfl)))
  rw [idxL_same (fun x : S75 => x.f0 == id) (cId id) (fun x => by unfold cId; rfl), hk] at HQ
  have hl := World.block_lt_of_cell? w _ hp
  rw [hA] at HQ hp
  have hki : (k : Int) < (xs.length : Int) := by omega
  have hk0 : (0 : Int) ≤ (k : Int) := by omega
  subst hsp
  clear hC hk hA
  go_enter Tryd.func175, Tryd.ntmps175
  go_wp2_with fail
  refine HQ.out.mono ?_
  rintro e w1 ⟨rfl, hb1⟩
  have hx1 := blk_below HX.out hb1
  have c2 := blk_cell (j := 2) (v := .int .i64 at0) hx1 rfl
  have f2 := blk_frozen hx1 2
  have HB := Aside0.mk (((below_alloc (Below.refl _ w) (.cells #[.int .i64 id] 3)).trans (hb1.mono (by simp))).mono (Nat.le_of_lt hEl) : Below E w w1)
  have hp1 := pw_cell_below (below_then (below_alloc (Below.refl _ w) (.cells #[.int .i64 id] 3)) (by simp) hb1) hp
  have HX1 := Aside0.mk hx1
  clear hx1 hb1 e0 hE hp
  go_wp2_with fail
  have hx2 := blk_put HX1.out 2 (.int .i64 (k : Int)) rfl
  have hp2 : (w1.setCell ⟨E, 2, none⟩ (.int .i64 (k : Int))).cell? ⟨pa.block, pa.off + 2, none⟩ = some (.slice (some ad) xs.length c) := by
    rw [← hp1]; exact cell_same (Below.heap_setCell _ _ _ _ hpE)
  have HB2 := Aside0.mk (HB.out.setCell (p := ⟨E, 2, none⟩) (Nat.le_refl _) (.int .i64 (k : Int)))
  clear c2 f2 hp1 HX1 HB HX
  generalize w1.setCell ⟨E, 2, none⟩ (.int .i64 (k : Int)) = w2 at hx2 hp2 HB2 ⊢
  have c0 := blk_cell (j := 0) (v := .pointer (some pa)) hx2 rfl
  have c1 := blk_cell (j := 1) (v := .pointer none) hx2 rfl
  have c2 := blk_cell (j := 2) (v := .int .i64 (k : Int)) hx2 rfl
  have c4 := blk_cell (j := 4) (v := .bool rl0) hx2 rfl
  have f1 := blk_frozen hx2 1
  have f4 := blk_frozen hx2 4
  have hpE' : ¬ E = pa.block := Ne.symm hpE
  have HX2 := Aside0.mk hx2
  clear hx2
  cases rule
  all_goals
    go_wp2_with fail
    go_region
    all_goals
      go_wp2
      go_ret
      first
        | exact ⟨rfl, below_drew ((HB2.out.setCell (p := ⟨E, 1, none⟩) (Nat.le_refl _) _).setCell (p := ⟨E, 4, none⟩) (Nat.le_refl _) _), blk_put (blk_put HX2.out 1 _ rfl) 4 _ rfl⟩
        | exact ⟨rfl, below_drew (((HB2.out.setCell (p := ⟨E, 1, none⟩) (Nat.le_refl _) _).setCell (p := ⟨E, 4, none⟩) (Nat.le_refl _) _).setCell (p := ⟨E, 1, none⟩) (Nat.le_refl _) _), blk_put (blk_put (blk_put HX2.out 1 _ rfl) 4 _ rfl) 1 _ rfl⟩
end Go.Proofs.YtjgomlcdmpcoaaaDoor.H
