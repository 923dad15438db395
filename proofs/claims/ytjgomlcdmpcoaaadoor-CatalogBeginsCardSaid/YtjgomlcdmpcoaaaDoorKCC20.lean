/- Own texts of this session, packed by its program wip/pp/pack.py: lemmas and walks of functions. -/
import Derived.Test.YtjgomlcdmpcoaaaDoorKCC17
import Derived.Test.YtjgomlcdmpcoaaaDoorKCC18
import Derived.Test.YtjgomlcdmpcoaaaDoorKCC19
namespace Go.Proofs.YtjgomlcdmpcoaaaDoor.H
open Go.RowKit Go.Proofs.YtjgomlcdmpcoaaaDoorW.PrintWords Go.Proofs.YtjgomlcdmpcoaaaDoorW.PrintLast Go.Proofs.YtjgomlcdmpcoaaaDoorW.PrintMore
open Go.Proofs.YtjgomlcdmpcoaaaDoor.D Go.Proofs.YtjgomlcdmpcoaaaDoor
set_option linter.unusedVariables false
set_option linter.unusedSimpArgs false
def stepP (v : Int) (ts : List S70) (nx : Int) (kind table elem : Int) (up : Bool) : Told :=
  if schB v ts nx = false then noTold 3
  else if 1099511627775 ≤ v then noTold 4
  else if stateI v ts nx kind table elem < 0 then noTold 5
  else if (up = true ∧ stateI v ts nx kind table elem = 4) ∨ (up = false ∧ stateI v ts nx kind table elem = 0) then noTold 12
  else if 8 ≤ kind ∧ idxL (cId elem) (rd_T70 ts (idxL (tId table) ts 0)).f2 0 = 0 then noTold 8
  else if up = false ∧ stateI v ts nx kind table elem = 1 ∧ (kind = 8 ∨ kind = 9) ∧ usedB elem (rd_T70 ts (idxL (tId table) ts 0)).f3 = true then noTold 18
  else ⟨v + 1, ts.set (idxL (tId table) ts 0).toNat (turnP (rd_T70 ts (idxL (tId table) ts 0)) kind elem (if up = true then 1 else -1)), nx, 0, 0, 0⟩
structure Bxt (w W : World) (bx : Array Value) : Prop where
  below : Below w.heap.size w W
  b0 : W.heap[w.heap.size]? = some (.cells bx 28 (0, 0))
  b2 : W.heap[w.heap.size + 1]? = some (.cells #[.int .i64 0, .slice none 0 0, .int .i64 0] 28 (0, 0))
section
variable {w W W1 : World} {bx : Array Value}
theorem Bxt.new (w : World) (bx : Array Value) : Bxt w ((w.alloc (.cells bx 28)).alloc (.cells #[.int .i64 0, .slice none 0 0, .int .i64 0] 28)) bx := by
  have h1 := heap_alloc_new w (.cells bx 28)
  have h2 := heap_alloc_new (w.alloc (.cells bx 28)) (.cells #[.int .i64 0, .slice none 0 0, .int .i64 0] 28)
  rw [show (w.alloc (.cells bx 28)).heap.size = w.heap.size + 1 by simp] at h2
  exact ⟨below_alloc (below_alloc (Below.refl _ _) _) _, blk_alloc h1 _, h2⟩
theorem Bxt.step (h : Bxt w W bx) (hb : Below W.heap.size W W1) : Bxt w W1 bx := ⟨below_then h.below h.below.size hb, blk_below h.b0 hb, blk_below h.b2 hb⟩
theorem Bxt.tch (h : Bxt w W bx) (hb : Tch w.heap.size W W1) : Bxt w W1 bx := ⟨h.below.trans hb.below, hb.box h.b0, hb.box h.b2⟩
theorem Bxt.out (h : Bxt w W bx) (a b c : Value) : Below w.heap.size w (((W.setCell ⟨w.heap.size + 1, 0, none⟩ a).setCell ⟨w.heap.size + 1, 1, none⟩ b).setCell ⟨w.heap.size + 1, 2, none⟩ c) :=
  have hl : w.heap.size ≤ w.heap.size + 1 := by omega
  ((h.below.setCell hl _).setCell hl _).setCell hl _
theorem Bxt.far (h : Bxt w W bx) {g j : Nat} (hg : w.heap.size + 1 < g) (u : Value) : Bxt w (W.setCell ⟨g, j, none⟩ u) bx :=
  ⟨h.below.setCell (p := ⟨g, j, none⟩) (show w.heap.size ≤ g by omega) _, blk_far h.b0 (p := ⟨g, j, none⟩) (show w.heap.size ≠ g by omega) _, blk_far h.b2 (p := ⟨g, j, none⟩) (show w.heap.size + 1 ≠ g by omega) _⟩
end
def HeldY (w W0 W : World) (m : Nat) (a b c d : Value) : Prop := Below W0.heap.size W0 W ∧ W.cell? ⟨w.heap.size, 0, none⟩ = some a ∧ W.cell? ⟨w.heap.size, 1, none⟩ = some b ∧ W.cell? ⟨w.heap.size, 2, none⟩ = some c ∧ W.cell? ⟨m, 1, none⟩ = some d
theorem HeldY.new {w W0 : World} {m : Nat} {a b c d : Value} (h0 : W0.cell? ⟨w.heap.size, 0, none⟩ = some a) (h1 : W0.cell? ⟨w.heap.size, 1, none⟩ = some b) (h2 : W0.cell? ⟨w.heap.size, 2, none⟩ = some c) (h3 : W0.cell? ⟨m, 1, none⟩ = some d) : HeldY w W0 W0.drew m a b c d :=
  ⟨below_drew (Below.refl _ _), h0, h1, h2, h3⟩
theorem HeldY.step {w W0 W W' : World} {m : Nat} {a b c d : Value} (h : HeldY w W0 W m a b c d) (hb : Below W.heap.size W W') : HeldY w W0 W' m a b c d := by
  obtain ⟨h1, h2, h3, h4, h5⟩ := h
  exact ⟨below_then h1 h1.size hb, pw_cell_below hb h2, pw_cell_below hb h3, pw_cell_below hb h4, pw_cell_below hb h5⟩
end Go.Proofs.YtjgomlcdmpcoaaaDoor.H
namespace Go.Proofs.YtjgomlcdmpcoaaaDoor.H
open Go.RowKit Go.Proofs.YtjgomlcdmpcoaaaDoorW.PrintWords Go.Proofs.YtjgomlcdmpcoaaaDoorW.PrintLast Go.Proofs.YtjgomlcdmpcoaaaDoorW.PrintMore
open Go.Proofs.YtjgomlcdmpcoaaaDoor.D Go.Proofs.YtjgomlcdmpcoaaaDoor
set_option linter.unusedVariables false
set_option linter.unusedSimpArgs false
def xName (n : ByteArray) (x : S98) : Bool := decide (x.f1.toList = n.toList)
def idsOf (cols : List S75) : List ByteArray → Option (List Int)
  | [] => some []
  | n :: r => if idxL (cShown n) cols 0 < 0 then none else (idsOf cols r).map ((rd_T75 cols (idxL (cShown n) cols 0)).f0 :: ·)
def addIndexP (t : S70) (s : S45) : S70 × Int × Int :=
  if nameB s.f2 = false ∨ s.f3.length < 1 ∨ 8 < s.f3.length then (t, 0, 3)
  else if t.f3.any (xName s.f2) = true then (t, 0, 6)
  else if twiceB [] s.f3 = true then (t, 0, 6)
  else match idsOf t.f2 s.f3 with
    | none => (t, 0, 5)
    | some ids => if 4 ≤ t.f3.length ∨ 60000 ≤ t.f4 then (t, 0, 4) else (⟨t.f0, t.f1, t.f2, t.f3 ++ [⟨t.f4, s.f2, ids, s.f7, 1⟩], t.f4 + 1⟩, t.f4, 0)
structure AddSt (w2 wr : World) (n4 : Int) (nm_ : ByteArray) (uq : Bool) (iv : Value) (ids : List Int) : Prop where
  below : Below w2.heap.size w2 wr
  box : wr.heap[w2.heap.size]? = some (.cells #[.int .i64 n4, .string nm_, iv, .bool uq, .int .i64 1] 98 (0, 0))
  row : (Kd.int .i64).R 3 wr w2.heap.size (fun _ => True) iv ids
theorem AddSt.step {w2 wr W : World} {n4 : Int} {nm_ : ByteArray} {uq : Bool} {iv : Value} {ids : List Int} (h : AddSt w2 wr n4 nm_ uq iv ids) (hb : Below wr.heap.size wr W) : AddSt w2 W n4 nm_ uq iv ids :=
  ⟨below_then h.below h.below.size hb, blk_below h.box hb, Kd.R_below h.row hb⟩
theorem AddSt.new (w2 : World) (n4 : Int) (nm_ : ByteArray) (uq : Bool) : AddSt w2 (w2.alloc (.cells #[.int .i64 n4, .string nm_, .slice none 0 0, .bool uq, .int .i64 1] 98)).drew n4 nm_ uq (.slice none 0 0) [] :=
  ⟨below_drew (below_alloc (Below.refl _ _) _), heap_alloc_new w2 _, Kd.R_nil _ _ _ _ _⟩
theorem AddSt.next {w2 wr W W1 : World} {n4 : Int} {nm_ : ByteArray} {uq : Bool} {iv iv1 : Value} {ids : List Int} {x : Int} (h : AddSt w2 wr n4 nm_ uq iv ids) (hb : Below wr.heap.size wr W) (hg : W.grownBy W1 iv.ownBlock) (hr : (Kd.int .i64).R 3 W1 w2.heap.size (fun _ => True) iv1 (ids ++ [x])) :
    AddSt w2 (W1.setCell ⟨w2.heap.size, 2, none⟩ iv1) n4 nm_ uq iv1 (ids ++ [x]) := by
  have h' := h.step hb
  have hx := blk_grown h'.box hg (Kd.R_ne h'.row h'.box (by decide))
  refine ⟨Below.setCell (h'.below.grown hg h'.below.size (Kd.R_base h'.row)) (Nat.le_refl _) _, blk_put hx 2 _ rfl, Kd.R_set hr hx (by decide) 2 _⟩
set_option maxRecDepth 100000 in
set_option maxHeartbeats 4000000 in
theorem addIndex_upd : Upd 62 addIndexP := by
  intro w0 W g n cap ts i oki t cv iv s cs hB hL ht hs hok
  obtain ⟨A3, c3, A4, c4, A5, c5, A6, c6, A9, c9, rfl, l3, g3, -, -, -, -, -, -, -, -⟩ := k45_open hs
  obtain ⟨m2, m3, m4, m5⟩ := tableB_lens ht
  obtain ⟨Ai, ci, hiv⟩ := Kd.R_slice hL.inds
  obtain ⟨Ac, cc, hcv⟩ := Kd.R_slice hL.cols
  subst hiv hcv
  have HC := Aside0.mk g3
  have hl3 := hok.1
  obtain ⟨BX, hBX⟩ : ∃ b : Array Value, b = #[.int .i64 s.f0, .string s.f1, .string s.f2, .slice A3 s.f3.length c3, .slice A4 s.f4.length c4, .slice A5 s.f5.length c5, .slice A6 s.f6.length c6, .bool s.f7, .int .i64 s.f8, .slice A9 s.f9.length c9] := ⟨_, rfl⟩
  have HN := Lib.hid (fun w => rname_calls s.f2 w)
  have HI := Lib.hid (show addIndexP t s = _ by unfold addIndexP; exact rfl)
  have HU := Aside0.mk ((⟨hL, Tch.refl _ _, hB.size⟩ : UpdSt w0 W W g n cap ts i oki t (.slice Ac t.f2.length cc) (.slice Ai t.f3.length ci)).step (below_alloc (Below.refl _ _) (.cells #[.int .i64 s.f0, .string s.f1, .string s.f2, .slice A3 s.f3.length c3, .slice A4 s.f4.length c4, .slice A5 s.f5.length c5, .slice A6 s.f6.length c6, .bool s.f7, .int .i64 s.f8, .slice A9 s.f9.length c9] 45)))
  have HB := Aside0.mk hB
  have HB4 := Aside0.mk (show 1 ≤ t.f4 ∧ t.f4 ≤ 60000 by unfold tableB at ht; simp only [Bool.and_eq_true, decide_eq_true_eq] at ht; exact ⟨ht.1, ht.2.1⟩)
  clear hB hL g3 hs hok
  by_cases hnm : nameB s.f2 = false
  · have hR : addIndexP t s = (t, 0, 3) := by rw [HI.out, if_pos (.inl hnm)]
    rw [hR]
    rw [hnm] at HN
    clear hR hnm HI
    go_enter Tryd.func62, Tryd.ntmps62
    go_wp2_with (go_at_call 34; refine (HN.out _).mono ?_; rintro e w1 ⟨rfl, hb1⟩)
    go_ret2
    exact ⟨rfl, (HU.out.step hb1).done⟩
  have hnm' : nameB s.f2 = true := by simpa using hnm
  rw [hnm'] at HN
  by_cases hl1 : s.f3.length < 1
  · have hR : addIndexP t s = (t, 0, 3) := by rw [HI.out, if_pos (.inr (.inl hl1))]
    rw [hR]
    have hd : decide ((s.f3.length : Int) < 1) = true := decide_eq_true (by omega)
    clear hR hnm hnm' HI hl1
    go_enter Tryd.func62, Tryd.ntmps62
    go_wp2_with (go_at_call 34; refine (HN.out _).mono ?_; rintro e w1 ⟨rfl, hb1⟩; have hx1 := blk_below (heap_alloc_new W (.cells #[.int .i64 s.f0, .string s.f1, .string s.f2, .slice A3 s.f3.length c3, .slice A4 s.f4.length c4, .slice A5 s.f5.length c5, .slice A6 s.f6.length c6, .bool s.f7, .int .i64 s.f8, .slice A9 s.f9.length c9] 45)) hb1; have x3 := blk_cell (j := 3) (v := .slice A3 s.f3.length c3) hx1 rfl; clear hx1)
    go_ret2
    exact ⟨rfl, (HU.out.step hb1).done⟩
  have hd1 : decide ((s.f3.length : Int) < 1) = false := decide_eq_false (by omega)
  by_cases hl8 : 8 < s.f3.length
  · have hR : addIndexP t s = (t, 0, 3) := by rw [HI.out, if_pos (.inr (.inr hl8))]
    rw [hR]
    have hd : decide (8 < (s.f3.length : Int)) = true := decide_eq_true (by omega)
    clear hR hnm hnm' HI hl1 hl8
    go_enter Tryd.func62, Tryd.ntmps62
    go_wp2_with (go_at_call 34; refine (HN.out _).mono ?_; rintro e w1 ⟨rfl, hb1⟩; have hx1 := blk_below (heap_alloc_new W (.cells #[.int .i64 s.f0, .string s.f1, .string s.f2, .slice A3 s.f3.length c3, .slice A4 s.f4.length c4, .slice A5 s.f5.length c5, .slice A6 s.f6.length c6, .bool s.f7, .int .i64 s.f8, .slice A9 s.f9.length c9] 45)) hb1; have x3 := blk_cell (j := 3) (v := .slice A3 s.f3.length c3) hx1 rfl; clear hx1)
    go_ret2
    exact ⟨rfl, (HU.out.step hb1).done⟩
  have hd8 : decide (8 < (s.f3.length : Int)) = false := decide_eq_false (by omega)
  obtain ⟨T, id, er, hTR⟩ : ∃ T id er, addIndexP t s = (T, id, er) := ⟨_, _, _, rfl⟩
  rw [hTR]
  rw [hTR] at HI
  have HI2 := Lib.hid (HI.out.trans (if_neg (show ¬ (nameB s.f2 = false ∨ s.f3.length < 1 ∨ 8 < s.f3.length) from fun h => h.elim hnm (fun h => h.elim hl1 hl8))))
  have hlo : 1 ≤ s.f3.length := by omega
  have hhi : s.f3.length ≤ 8 := by omega
  clear HI hnm hnm' hl1 hl8 hTR
  go_enter Tryd.func62, Tryd.ntmps62
  go_wp2_with (go_at_call 34; refine (HN.out _).mono ?_; rintro e w1 ⟨rfl, hb1⟩; have hx1 := blk_below (heap_alloc_new W (.cells #[.int .i64 s.f0, .string s.f1, .string s.f2, .slice A3 s.f3.length c3, .slice A4 s.f4.length c4, .slice A5 s.f5.length c5, .slice A6 s.f6.length c6, .bool s.f7, .int .i64 s.f8, .slice A9 s.f9.length c9] 45)) hb1; have x3 := blk_cell (j := 3) (v := .slice A3 s.f3.length c3) hx1 rfl; have HX := Aside0.mk hx1; have HU1 := Aside0.mk (HU.out.step hb1); clear hx1 hb1)
  have HX1 := Aside0.mk (show w1.heap[W.heap.size]? = some (.cells BX 45 (0, 0)) by rw [hBX]; exact HX.out)
  clear HX HU x3 HN hd1 hd8
  go_loopg [6] t.f3.length (fun gg u6 wr => ∃ k : Nat, k ≤ t.f3.length ∧ t.f3.length - k ≤ gg ∧ u6 = .int .i64 k ∧ Aside0 (UpdSt w0 W wr g n cap ts i oki t (.slice Ac t.f2.length cc) (.slice Ai t.f3.length ci)) ∧ Aside0 (wr.heap[W.heap.size]? = some (.cells BX 45 (0, 0))) ∧ Aside0 (t.f3.any (xName s.f2) = (t.f3.drop k).any (xName s.f2)))
  case atStart => exact ⟨0, Nat.zero_le _, by omega, rfl, HU1, HX1, ⟨by rw [List.drop_zero]⟩⟩
  case round =>
    clear HU1 HX1
    obtain ⟨k, hk, hgk, rfl, HU, HX, HA⟩ := hrel
    have a3 := HU.out.lent.cell 3 rfl
    have x2 := blk_cell (j := 2) (v := .string s.f2) HX.out (by rw [hBX]; rfl)
    by_cases hlt : k < t.f3.length
    · have hltz : (k : Int) < (t.f3.length : Int) := by omega
      obtain ⟨-, -, hC⟩ := Kd.R_reads' HU.out.lent.inds
      obtain ⟨ae, A5', c5', eA5, e0, e1, e2, e3, e4, -, -⟩ := at_T98 hC (k : Int) (by omega) (by omega)
      have hx : rd_T98 t.f3 (k : Int) = t.f3[k] := rd98 _ _ hlt
      rw [hx] at e0 e1 e2 e3 e4
      simp only [Int.toNat_natCast] at e0 e1 e2 e3 e4
      cases eA5
      have hdr : t.f3.drop k = t.f3[k] :: t.f3.drop (k + 1) := List.drop_eq_getElem_cons hlt
      have hA := HA.out
      rw [hdr, List.any_cons] at hA
      generalize t.f3[k] = x at e0 e1 e2 e3 e4 hA
      clear hdr hx hC HA e0 e2 e3 e4
      by_cases hm : x.f1.toList = s.f2.toList
      · have hq : (x.f1.toList == s.f2.toList) = true := by simpa using hm
        have hxn : xName s.f2 x = true := decide_eq_true hm
        have HR := Lib.hid (show (T, id, er) = (t, 0, 6) by rw [HI2.out, hA, hxn, if_pos (by rfl)])
        clear hA hm hxn
        go_wp2_with fail
        go_quiet (fail)
        go_wp2
        go_ret2
        obtain ⟨rfl, rfl, rfl⟩ : T = t ∧ id = 0 ∧ er = 6 := by have := HR.out; simp only [Prod.mk.injEq] at this; exact this
        exact ⟨rfl, (HU.out.step (pw_below_drewN (Below.refl _ _) _)).done⟩
      · have hq : (x.f1.toList == s.f2.toList) = false := by simpa using hm
        have hxn : xName s.f2 x = false := decide_eq_false hm
        rw [hxn, Bool.false_or] at hA
        have HA := Aside0.mk hA
        clear hA hm hxn
        go_wp2_with fail
        go_quiet (fail)
        go_wp2
        go_roundg (t.f3.length - (k + 1))
        case measure => omega
        case rel => exact ⟨k + 1, by omega, by omega, by go_num, ⟨HU.out.step (pw_below_drewN (Below.refl _ _) _)⟩, ⟨blk_below HX.out (pw_below_drewN (Below.refl _ _) _)⟩, HA⟩
    · have hltz : ¬ (k : Int) < (t.f3.length : Int) := by omega
      have hA := HA.out
      rw [List.drop_eq_nil_of_le (by omega), List.any_nil] at hA
      have HI3 := Lib.hid (HI2.out.trans (by rw [hA, if_neg (by simp)]))
      have x3 := blk_cell (j := 3) (v := .slice A3 s.f3.length c3) HX.out (by rw [hBX]; rfl)
      clear hA HA HI2
      have hBW := Aside0.mk (HB.out.trans HU.out.tch.below)
      go_wp2_with fail
      cases htw : twiceB [] s.f3 with
      | true =>
        refine (rtwice_calls s.f3 (by omega) A3 c3 _ l3 (Kd.C_below HC.out hBW.out)).mono ?_
        rintro e w2 ⟨rfl, hb2⟩
        rw [htw]
        have HR := Lib.hid (show (T, id, er) = (t, 0, 6) by rw [HI3.out, htw, if_pos (by rfl)])
        clear htw
        go_wp2
        go_ret2
        obtain ⟨rfl, rfl, rfl⟩ : T = t ∧ id = 0 ∧ er = 6 := by have := HR.out; simp only [Prod.mk.injEq] at this; exact this
        exact ⟨rfl, (HU.out.step hb2).done⟩
      | false =>
        refine (rtwice_calls s.f3 (by omega) A3 c3 _ l3 (Kd.C_below HC.out hBW.out)).mono ?_
        rintro e w2 ⟨rfl, hb2⟩
        rw [htw]
        have HI4 := Lib.hid (HI3.out.trans (by rw [htw, if_neg (by simp)]))
        have HU2 := Aside0.mk (HU.out.step hb2)
        have HX2 := Aside0.mk (blk_below HX.out hb2)
        have a4 := HU2.out.lent.cell 4 rfl
        have y2 := blk_cell (j := 2) (v := .string s.f2) HX2.out (by rw [hBX]; rfl)
        have y7 := blk_cell (j := 7) (v := .bool s.f7) HX2.out (by rw [hBX]; rfl)
        have hq1 : W.heap.size < w2.heap.size := lt_of_block HX2.out
        obtain ⟨gcs, hgb⟩ := HU2.out.lent.blk
        have hq2 : g < w2.heap.size := lt_of_block hgb
        clear htw hb2 x2 x3 a3 HU HX HI3 hBW hgb
        go_wp2_with fail
        go_region
        go_wp2
        have HS0 := Aside0.mk (AddSt.new w2 t.f4 s.f2 s.f7)
        clear a4 y2 y7
        go_loopg [8] s.f3.length (fun gg u8 wr => ∃ j : Nat, ∃ iv : Value, ∃ ids : List Int, j ≤ s.f3.length ∧ s.f3.length - j ≤ gg ∧ u8 = .int .i64 j ∧ Aside0 (AddSt w2 wr t.f4 s.f2 s.f7 iv ids) ∧ Aside0 (ids.length = j) ∧ Aside0 (idsOf t.f2 s.f3 = (idsOf t.f2 (s.f3.drop j)).map (ids ++ ·)))
        case atStart => exact ⟨0, _, [], Nat.zero_le _, by omega, rfl, HS0, ⟨rfl⟩, ⟨by rw [List.drop_zero]; cases idsOf t.f2 s.f3 <;> rfl⟩⟩
        case round =>
          clear HS0
          obtain ⟨j, iv, ids, hj, hgj, rfl, HS, HJ, HA⟩ := hrel
          obtain ⟨Av, cw, hiv⟩ := Kd.R_slice HS.out.row
          rw [HJ.out] at hiv
          subst hiv
          have HU := Aside0.mk (HU2.out.step HS.out.below)
          have hXr := blk_below HX2.out HS.out.below
          have HX := Aside0.mk hXr
          have x3 := blk_cell (j := 3) (v := .slice A3 s.f3.length c3) hXr (by rw [hBX]; rfl)
          have a2 := HU.out.lent.cell 2 rfl
          clear hXr
          by_cases hlt : j < s.f3.length
          · have hltz : (j : Int) < (s.f3.length : Int) := by omega
            have HBW := Aside0.mk (HB.out.trans HU.out.tch.below)
            obtain ⟨a3', eA3, es⟩ := at_str (Kd.C_below HC.out HBW.out) j hlt
            cases eA3
            have hA := HA.out
            rw [List.drop_eq_getElem_cons hlt] at hA
            generalize s.f3[j] = nme at es hA
            obtain ⟨-, hcc, hC⟩ := Kd.R_reads' HU.out.lent.cols
            have HCC := Aside0.mk hC
            clear HA hC
            rcases idxL_at (cShown nme) t.f2 with hix | ⟨k', hk', hix, -⟩
            · have HR := Lib.hid (show (T, id, er) = (t, 0, 5) by rw [HI4.out, hA]; unfold idsOf; rw [hix]; rfl)
              have HQ := Lib.hid (fun W' (hb : Below wr.heap.size wr W') => rshown_calls t.f2 (by omega) nme Ac cc W' (by omega) (Kd.C_below HCC.out hb))
              rw [hix] at HQ
              clear hA hix
              go_wp2_with fail
              go_quiet ((go_at_call 117; exact Calls.quiet_of (HQ.out _ (pw_below_drewN (Below.refl _ _) _))))
              go_wp2
              go_ret2
              obtain ⟨rfl, rfl, rfl⟩ : T = t ∧ id = 0 ∧ er = 5 := by have := HR.out; simp only [Prod.mk.injEq] at this; exact this
              exact ⟨rfl, (HU.out.step (pw_below_drewN (Below.refl _ _) _)).done⟩
            · obtain ⟨ac, eA, h0, -⟩ := at_T75 HCC.out (k' : Int) (by omega) (by omega)
              have hkr := rd75 _ _ hk'
              have hA2 : idsOf t.f2 s.f3 = (idsOf t.f2 (s.f3.drop (j + 1))).map ((ids ++ [(rd_T75 t.f2 (k' : Int)).f0]) ++ ·) := by
                rw [hA]
                show (if idxL (cShown nme) t.f2 0 < 0 then none else (idsOf t.f2 (s.f3.drop (j + 1))).map ((rd_T75 t.f2 (idxL (cShown nme) t.f2 0)).f0 :: ·)).map (ids ++ ·) = _
                rw [hix, if_neg (by omega)]
                cases idsOf t.f2 (s.f3.drop (j + 1)) <;> simp
              have HQ := Lib.hid (fun W' (hb : Below wr.heap.size wr W') => rshown_calls t.f2 (by omega) nme Ac cc W' (by omega) (Kd.C_below HCC.out hb))
              rw [hix] at HQ
              have hk2 : (k' : Int) < (t.f2.length : Int) := by omega
              have hk0 : (0 : Int) ≤ (k' : Int) := by omega
              cases eA
              generalize (rd_T75 t.f2 (k' : Int)).f0 = ik at h0 hA2
              simp only [Int.toNat_natCast] at h0
              have HA := Aside0.mk hA2
              have HE0 := Aside0.mk h0
              clear hA hA2 hix hkr h0
              go_wp2_with fail
              go_quiet ((go_at_call 117; exact Calls.quiet_of (HQ.out _ (pw_below_drewN (Below.refl _ _) _))))
              rename_i nq
              have hbq : Below wr.heap.size wr (wr.drewN nq) := pw_below_drewN (Below.refl _ _) _
              have HSq := Aside0.mk (HS.out.step hbq)
              have hUq := HU.out.step hbq
              have hXq := blk_below HX.out hbq
              have e0 := pw_cell_below hbq HE0.out
              clear a2 x3 es HQ HE0 HS HU HX HCC
              generalize wr.drewN nq = wq at hbq HSq hUq hXq e0 ⊢
              have b2 := blk_cell (j := 2) (v := .slice Av j cw) HSq.out.box rfl
              have a2 := hUq.lent.cell 2 rfl
              have q1 : w2.heap.size < wq.heap.size := lt_of_block HSq.out.box
              have q2 : g < wq.heap.size := World.block_lt_of_cell? wq _ a2
              have q3 : (ac.add (k' * 9)).block < wq.heap.size := World.block_lt_of_cell? wq _ e0
              have HUq := Aside0.mk hUq
              have HXq := Aside0.mk hXq
              have HBQ := Aside0.mk hbq
              clear hUq hXq hbq
              go_wp2_with fail
              go_region_law
                ((refine step_R (Kd.int .i64) (by rfl) (.tmp 78) (.tmp 87) 40 3 (.int .i64 0) 8 (by rfl) Tryd.underlying40 info3 (by rfl) (by decide) (by decide) w2.heap.size (.slice Av j cw) ids ik [.int .i64 ik] (fun _ => True) (fun _ => False) (by rfl) (by repeat (first | exact HSq.out.row | refine Kd.R_drew ?_ | refine Kd.R_alloc ?_ _)) ⟨wq.heap.size, 0, none⟩ (by rfl) (World.news_of_block (cs := #[_]) (t := 3) (fr := (0, 0)) (heap_alloc_new wq _)) rfl (fun _ h => h.elim) (fun _ _ => trivial) (by simp; omega) (by rw [HJ.out]; omega) ?_; intro A1 c1 w1 hr hg1; have hx1 := (hg1.block w2.heap.size (Nat.lt_of_lt_of_le q1 (by simp)) (Kd.R_ne HSq.out.row HSq.out.box (by decide))).trans (blk_alloc HSq.out.box (.cells #[.int .i64 ik] 3)); have d1 := blk_cell (j := 2) (v := .slice Av j cw) hx1 rfl; have f1 := blk_frozen hx1 2))
              all_goals
                have hst := HSq.out.next (below_drew (below_alloc (Below.refl _ _) _)) hg1 hr
                have HN2 := Aside0.mk hst
                clear hst hr hg1 hx1 d1 f1 e0 b2 a2
                go_wp2
                go_roundg (s.f3.length - (j + 1))
                case measure => omega
                case rel => exact ⟨j + 1, _, ids ++ [ik], by omega, by omega, by go_num, HN2, ⟨by rw [List.length_append, HJ.out]; rfl⟩, HA⟩
          · have hltz : ¬ (j : Int) < (s.f3.length : Int) := by omega
            have hA := HA.out
            rw [List.drop_eq_nil_of_le (by omega)] at hA
            have hA2 : idsOf t.f2 s.f3 = some ids := by rw [hA]; simp [idsOf]
            have HI5 := Lib.hid (HI4.out.trans (by rw [hA2]))
            have a3 := HU.out.lent.cell 3 rfl
            have a4 := HU.out.lent.cell 4 rfl
            clear hA hA2 HA HI4 a2
            by_cases h4 : 4 ≤ t.f3.length
            · have hd : decide ((4 : Int) ≤ (t.f3.length : Int)) = true := decide_eq_true (by omega)
              have HR := Lib.hid (show (T, id, er) = (t, 0, 4) by rw [HI5.out]; exact if_pos (.inl h4))
              clear h4
              go_wp2
              go_ret2
              obtain ⟨rfl, rfl, rfl⟩ : T = t ∧ id = 0 ∧ er = 4 := by have := HR.out; simp only [Prod.mk.injEq] at this; exact this
              exact ⟨rfl, HU.out.done⟩
            · have hd : decide ((4 : Int) ≤ (t.f3.length : Int)) = false := decide_eq_false (by omega)
              by_cases h6 : 60000 ≤ t.f4
              · have HR := Lib.hid (show (T, id, er) = (t, 0, 4) by rw [HI5.out]; exact if_pos (.inr h6))
                have hd6 : decide (60000 ≤ t.f4) = true := decide_eq_true h6
                clear h4 h6
                go_wp2
                go_ret2
                obtain ⟨rfl, rfl, rfl⟩ : T = t ∧ id = 0 ∧ er = 4 := by have := HR.out; simp only [Prod.mk.injEq] at this; exact this
                exact ⟨rfl, HU.out.done⟩
              · have HI6 := Lib.hid (HI5.out.trans (if_neg (show ¬ (4 ≤ t.f3.length ∨ 60000 ≤ t.f4) by omega)))
                have hd6 : decide (60000 ≤ t.f4) = false := decide_eq_false h6
                have hn0 := HB4.out
                have f4 := HU.out.lent.frozen (i * 5 + 4)
                have hUn := HU.out.setN (t.f4 + 1) rfl
                obtain ⟨gc', hgb'⟩ := HU.out.lent.blk
                have hne : w2.heap.size ≠ g := by omega
                have hxn := blk_far HS.out.box (p := ⟨g, i * 5 + 4, none⟩) hne (.int .i64 (t.f4 + 1))
                have hrn := Kd.R_set HS.out.row hgb' (by decide) (i * 5 + 4) (.int .i64 (t.f4 + 1))
                have hzn : w2.heap.size < (wr.setCell ⟨g, i * 5 + 4, none⟩ (.int .i64 (t.f4 + 1))).heap.size := lt_of_block hxn
                have hgn : g < (wr.setCell ⟨g, i * 5 + 4, none⟩ (.int .i64 (t.f4 + 1))).heap.size := by have := lt_of_block hgb'; simpa [World.setCell] using this
                clear HI5 h4 h6
                go_wp2_with fail
                clear f4 a3 a4 x3 hd hd6 hgb'
                generalize wr.setCell ⟨g, i * 5 + 4, none⟩ (.int .i64 (t.f4 + 1)) = wn at hUn hxn hrn hzn hgn ⊢
                have a3 := hUn.lent.cell 3 rfl
                have x0 := blk_cell (j := 0) (v := .int .i64 t.f4) hxn rfl
                have x1 := blk_cell (j := 1) (v := .string s.f2) hxn rfl
                have x2 := blk_cell (j := 2) (v := .slice Av j cw) hxn rfl
                have x3 := blk_cell (j := 3) (v := .bool s.f7) hxn rfl
                have x4 := blk_cell (j := 4) (v := .int .i64 1) hxn rfl
                have HUn := Aside0.mk hUn
                have HXn := Aside0.mk hxn
                have HRn := Aside0.mk hrn
                have HM := Aside0.mk (k98_mkM wn w0.heap.size (fun k => w2.heap.size ≤ k) ⟨t.f4, s.f2, ids, s.f7, 1⟩ (Kd.R_lower (Kd.R_mono (Kd.R_bound hrn) (fun k hk => hk.2.1)) (Nat.le_trans HU2.out.base HU2.out.tch.size)))
                have HBZ := Aside0.mk (Nat.le_trans hUn.base hUn.tch.size)
                clear hUn hxn hrn
                go_region_law
                  ((refine step_R k98 (by rfl) (.tmp 114) (.tmp 116) 68 98 (.agg #[(.int .i64 0), (.string ⟨#[]⟩), (.slice none 0 0), (.bool false), (.int .i64 0)]) 64 (by rfl) Tryd.underlying68 info98 (by rfl) (by decide) (by decide) w0.heap.size (.slice Ai t.f3.length ci) t.f3 (⟨t.f4, s.f2, ids, s.f7, 1⟩ : S98) [.int .i64 t.f4, .string s.f2, .slice Av j cw, .bool s.f7, .int .i64 1] oki (fun k => w2.heap.size ≤ k) (by rfl) (by repeat (first | exact HUn.out.lent.inds | refine Kd.R_drew ?_ | refine Kd.R_alloc ?_ _)) ⟨wn.heap.size, 0, none⟩ (by rfl) (World.news_of_block (cs := #[_, _, _, _, _]) (t := 98) (fr := (0, 0)) (heap_alloc_new wn _)) (by repeat (first | exact HM.out | refine k98.M_below ?_ (below_drew (Below.refl _ _)) | refine k98.M_below ?_ (below_alloc (Below.refl _ _) _))) (fun k hk => ⟨HU2.out.lent.fresh k hk, fun he => Nat.not_lt_of_le hk (Kd.R_lt HU2.out.lent.inds k he.symm)⟩) (fun k hk => HUn.out.lent.fresh k (Nat.le_trans (by simp) hk)) (Nat.le_trans HBZ.out (by simp)) (by omega) ?_; intro A1 c1 w1 hr hg1; have hx1 : w1.heap[g]? = wn.heap[g]? := (hg1.block g (Nat.lt_of_lt_of_le hgn (by simp)) (fun e => HUn.out.lent.oki_ne g (HUn.out.lent.inds.1 g e.symm) rfl)).trans (heap_alloc_old wn _ hgn); have d1 := (cell_same (a := ⟨g, i * 5 + 3, none⟩) hx1).trans a3; have f1 := (frozen_same (a := ⟨g, i * 5 + 3, none⟩) hx1).trans (HUn.out.lent.frozen _); have hy1 := (hg1.block w2.heap.size (Nat.lt_of_lt_of_le hzn (by simp)) (fun he => Nat.lt_irrefl _ (Kd.R_lt HU2.out.lent.inds w2.heap.size he.symm))).trans (blk_alloc HXn.out _); have d0 := blk_cell (j := 0) (v := .int .i64 t.f4) hy1 rfl))
                all_goals
                  have HF := Aside0.mk ((HUn.out.step (below_drew (below_alloc (Below.refl _ _) _))).setI hg1 hr rfl)
                  clear hr hg1 hx1 hy1 a3 x0 x1 x2 x3 x4
                  go_wp2
                  go_ret2
                  obtain ⟨rfl, rfl, rfl⟩ : T = _ ∧ id = t.f4 ∧ er = 0 := by have := HI6.out; simp only [Prod.mk.injEq] at this; exact this
                  exact ⟨rfl, HF.out.done⟩
end Go.Proofs.YtjgomlcdmpcoaaaDoor.H
namespace Go.Proofs.YtjgomlcdmpcoaaaDoor.H
open Go.RowKit Go.Proofs.YtjgomlcdmpcoaaaDoorW.PrintWords Go.Proofs.YtjgomlcdmpcoaaaDoorW.PrintLast Go.Proofs.YtjgomlcdmpcoaaaDoorW.PrintMore
open Go.Proofs.YtjgomlcdmpcoaaaDoor.D Go.Proofs.YtjgomlcdmpcoaaaDoor
set_option linter.unusedVariables false
set_option linter.unusedSimpArgs false
theorem C_strs {w : World} {b : Nat} {t : TypeId} {l : List ByteArray} (h : w.heap[b]? = some (.cells (l.map Value.string).toArray t (0, 0))) (hl : l.length ≤ 1000) : Kd.string.C w (some ⟨b, 0, none⟩) l.length l := by
  refine ⟨rfl, by omega, fun _ => ⟨_, rfl, fun j p hj => ⟨[.string p], rfl, rfl, fun i u hu => ?_⟩⟩⟩
  have hi : i = 0 := by have := (List.getElem?_eq_some_iff.1 hu).1; simp at this; omega
  subst hi
  have hu' : u = .string p := by simpa using hu.symm
  subst hu'
  rw [show (Kd.string.sz) = 1 from rfl, Nat.mul_one, Nat.add_zero, show (⟨b, 0, none⟩ : Addr).add j = ⟨b, j, none⟩ by unfold Addr.add; by_cases hj : j = 0 <;> simp [hj]]
  exact blk_cell h (by simp [hj])
theorem C_ints {w : World} {b : Nat} {t : TypeId} {l : List Int} (h : w.heap[b]? = some (.cells (l.map (Value.int .i64)).toArray t (0, 0))) (hl : l.length ≤ 1000) : (Kd.int .i64).C w (some ⟨b, 0, none⟩) l.length l := by
  refine ⟨rfl, by omega, fun _ => ⟨_, rfl, fun j p hj => ⟨[.int .i64 p], rfl, rfl, fun i u hu => ?_⟩⟩⟩
  have hi : i = 0 := by have := (List.getElem?_eq_some_iff.1 hu).1; simp at this; omega
  subst hi
  have hu' : u = .int .i64 p := by simpa using hu.symm
  subst hu'
  rw [show ((Kd.int .i64).sz) = 1 from rfl, Nat.mul_one, Nat.add_zero, show (⟨b, 0, none⟩ : Addr).add j = ⟨b, j, none⟩ by unfold Addr.add; by_cases hj : j = 0 <;> simp [hj]]
  exact blk_cell h (by simp [hj])
def tA : S75 := ⟨1, ⟨#[97]⟩, 2, 4, 4, z73⟩
def tB : S75 := ⟨2, ⟨#[98]⟩, 5, 4, 0, z73⟩
def tT (ix : List S98) (n : Int) : S70 := ⟨1, ⟨#[116]⟩, [tA, tB], ix, n⟩
def sT : S45 := ⟨5, ⟨#[116]⟩, ⟨#[]⟩, [⟨#[97]⟩, ⟨#[98]⟩], [], [], [], false, 0, [2, 5]⟩
def sI : S45 := ⟨6, ⟨#[116]⟩, ⟨#[105]⟩, [⟨#[98]⟩], [], [], [], false, 0, []⟩
def xI (st : Int) : S98 := ⟨3, ⟨#[105]⟩, [2], false, st⟩
theorem awake_create : createP 0 [] 0 sT = ⟨1, [tT [] 3], 2, 0, 0, 0⟩ := by kernel_rfl
theorem awake_wf (ix : List S98) (n : Int) (h : ∀ x ∈ ix, IndWf x) : ∀ t ∈ [tT ix n], TabWf t := by
  intro t ht
  rw [List.mem_singleton.1 ht]
  refine ⟨by show (1 : Nat) ≤ maxLen; decide, fun c hc => ?_, h⟩
  rcases List.mem_cons.1 hc with rfl | hc
  · exact ⟨by decide, by decide, by decide, by decide, by decide⟩
  · rw [List.mem_singleton.1 hc]
    exact ⟨by decide, by decide, by decide, by decide, by decide⟩
theorem sT_K (w : World) : k45.K ((w.alloc (.cells #[.string ⟨#[97]⟩, .string ⟨#[98]⟩] 9)).alloc (.cells #[.int .i64 2, .int .i64 5] 3)) sT [.int .i64 5, .string ⟨#[116]⟩, .string ⟨#[]⟩, .slice (some ⟨w.heap.size, 0, none⟩) 2 2, .slice none 0 0, .slice none 0 0, .slice none 0 0, .bool false, .int .i64 0, .slice (some ⟨w.heap.size + 1, 0, none⟩) 2 2] := by
  have h1 := blk_alloc (heap_alloc_new w (.cells #[.string ⟨#[97]⟩, .string ⟨#[98]⟩] 9)) (.cells #[.int .i64 2, .int .i64 5] 3)
  have h2 := heap_alloc_new (w.alloc (.cells #[.string ⟨#[97]⟩, .string ⟨#[98]⟩] 9)) (.cells #[.int .i64 2, .int .i64 5] 3)
  rw [show (w.alloc (.cells #[.string ⟨#[97]⟩, .string ⟨#[98]⟩] 9)).heap.size = w.heap.size + 1 by simp] at h2
  exact k45_mk _ sT (Nat.le_refl _) (C_strs (l := [⟨#[97]⟩, ⟨#[98]⟩]) h1 (by decide)) (Nat.le_refl _) (nil_C _ _) (Nat.le_refl _) (nil_C _ _) (Nat.le_refl _) (nil_C _ _) (Nat.le_refl _) (C_ints (l := [2, 5]) h2 (by decide))
theorem sI_K (w : World) : k45.K (w.alloc (.cells #[.string ⟨#[98]⟩] 9)) sI [.int .i64 6, .string ⟨#[116]⟩, .string ⟨#[105]⟩, .slice (some ⟨w.heap.size, 0, none⟩) 1 1, .slice none 0 0, .slice none 0 0, .slice none 0 0, .bool false, .int .i64 0, .slice none 0 0] :=
  k45_mk _ sI (Nat.le_refl _) (C_strs (l := [⟨#[98]⟩]) (heap_alloc_new w (.cells #[.string ⟨#[98]⟩] 9)) (by decide)) (Nat.le_refl _) (nil_C _ _) (Nat.le_refl _) (nil_C _ _) (Nat.le_refl _) (nil_C _ _) (Nat.le_refl _) (nil_C _ _)
theorem sT_ok : StmtOk sT := ⟨by decide, by decide, by decide, by decide, by decide, fun x hx => by cases hx⟩
theorem sI_ok : StmtOk sI := ⟨by decide, by decide, by decide, by decide, by decide, fun x hx => by cases hx⟩
theorem xI_wf (st : Int) : ∀ x ∈ [xI st], IndWf x := by
  intro x hx
  rw [List.mem_singleton.1 hx]
  exact ⟨show (-9223372036854775808 : Int) ≤ 3 by decide, show (3 : Int) < 9223372036854775808 by decide, show (1 : Nat) ≤ maxLen by decide⟩
end Go.Proofs.YtjgomlcdmpcoaaaDoor.H
