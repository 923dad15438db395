/- Own texts of this session, packed by its program wip/pp/pack.py: lemmas and walks of functions. -/
import Derived.RegionTactic
import Derived.BigRegion
import Derived.Test.YtjgomlcdmpcoaaaDoorKCC13
import Derived.Test.YtjgomlcdmpcoaaaDoorKCC19
import Derived.Test.YtjgomlcdmpcoaaaDoorKCC20
import Derived.Test.YtjgomlcdmpcoaaaDoorKCC23
import Derived.Test.YtjgomlcdmpcoaaaDoorKCC24
import Derived.Test.YtjgomlcdmpcoaaaDoorKCC25
import Derived.Test.YtjgomlcdmpcoaaaDoorKCC28
import Derived.Test.YtjgomlcdmpcoaaaDoorKCC29
import Derived.Test.YtjgomlcdmpcoaaaDoorKCC30
namespace Go.Proofs.YtjgomlcdmpcoaaaDoor.H
open Go.RowKit Go.Proofs.YtjgomlcdmpcoaaaDoorW.PrintWords Go.Proofs.YtjgomlcdmpcoaaaDoorW.PrintLast Go.Proofs.YtjgomlcdmpcoaaaDoorW.PrintMore
open Go.Proofs.YtjgomlcdmpcoaaaDoor.D Go.Proofs.YtjgomlcdmpcoaaaDoor
set_option linter.unusedVariables false
set_option linter.unusedSimpArgs false
def stepR (v : Int) (ts : List S70) (nx : Int) (i : Nat) (c : Int) (t : S70) : Told := if c ≠ 0 then noTold c else ⟨v + 1, ts.set i t, nx, 0, 0, 0⟩
theorem nxtE_ne {v : Int} {ts : List S70} {nx : Int} (h : nxtE v ts nx ≠ 0) (kind table elem : Int) (up : Bool) : stepP v ts nx kind table elem up = noTold (nxtE v ts nx) := by
  unfold nxtE at h ⊢
  unfold stepP
  by_cases h1 : schB v ts nx = false
  · rw [if_pos h1, if_pos h1]
  · rw [if_neg h1] at h ⊢
    rw [if_neg h1]
    by_cases h2 : 1099511627775 ≤ v
    · rw [if_pos h2, if_pos h2]
    · rw [if_neg h2] at h
      exact absurd rfl h
theorem nxtE_eq {v : Int} {ts : List S70} {nx : Int} (h : nxtE v ts nx = 0) : schB v ts nx = true ∧ ¬ 1099511627775 ≤ v := by
  unfold nxtE at h
  by_cases h1 : schB v ts nx = false
  · rw [if_pos h1] at h; cases h
  · rw [if_neg h1] at h
    refine ⟨by simpa using h1, fun h2 => ?_⟩
    rw [if_pos h2] at h
    cases h
theorem stepP_none {v : Int} {ts : List S70} {nx : Int} (h : nxtE v ts nx = 0) {kind table elem : Int} (hs : tS ts kind table elem < 0) (up : Bool) : stepP v ts nx kind table elem up = noTold 5 := by
  obtain ⟨h1, h2⟩ := nxtE_eq h
  have h3 : stateI v ts nx kind table elem < 0 := by
    unfold tS at hs
    unfold stateI
    by_cases hq : 0 ≤ idxL (tId table) ts 0
    · rw [if_pos hq] at hs ⊢
      rw [if_pos h1]
      exact hs
    · rw [if_neg hq]
      omega
  unfold stepP
  rw [if_neg (by rw [h1]; simp), if_neg h2, if_pos h3]
section
variable {v : Int} {ts : List S70} {nx kind table elem : Int} {i k : Nat} (h : nxtE v ts nx = 0) (hi : idxL (tId table) ts 0 = (i : Int)) (hil : i < ts.length)
include h hi hil
theorem step_some {st : Int} (hs : elemI ts[i] kind elem = st) (h0 : 0 ≤ st) (up : Bool) : stepP v ts nx kind table elem up = if (up = true ∧ st = 4) ∨ (up = false ∧ st = 0) then noTold 12
  else if 8 ≤ kind ∧ idxL (cId elem) ts[i].f2 0 = 0 then noTold 8
  else if up = false ∧ st = 1 ∧ (kind = 8 ∨ kind = 9) ∧ usedB elem ts[i].f3 = true then noTold 18
  else ⟨v + 1, ts.set i (turnP ts[i] kind elem (byI up)), nx, 0, 0, 0⟩ := by
  obtain ⟨h1, h2⟩ := nxtE_eq h
  have h3 : stateI v ts nx kind table elem = st := by
    unfold stateI
    rw [hi, if_pos (by omega), if_pos h1, rd70 _ _ hil, hs]
  unfold stepP
  rw [h3, if_neg (by rw [h1]; simp), if_neg h2, if_neg (by omega), hi, rd70 _ _ hil, Int.toNat_natCast]
  rfl
theorem stepP_X (hk : kind = 6 ∨ kind = 7) (he : idxL (xId elem) ts[i].f3 0 = (k : Int)) (hkl : k < ts[i].f3.length) (h0 : 0 ≤ ts[i].f3[k].f4) (up : Bool) :
    stepP v ts nx kind table elem up = stepR v ts nx i (turnXE (rd_T98 ts[i].f3 (k : Int)).f4 up) (turnI ts[i] k ((rd_T98 ts[i].f3 (k : Int)).f4 + byI up)) := by
  have hs : elemI ts[i] kind elem = (rd_T98 ts[i].f3 (k : Int)).f4 := by rw [elemI_x _ hk, he, if_pos (by omega)]
  rw [step_some h hi hil hs (by rw [rd98 _ _ hkl]; exact h0) up]
  unfold stepR turnXE
  by_cases hq : (up = true ∧ (rd_T98 ts[i].f3 (k : Int)).f4 = 4) ∨ (up = false ∧ (rd_T98 ts[i].f3 (k : Int)).f4 = 0)
  · rw [if_pos hq, if_pos hq, if_pos (by decide)]
  · rw [if_neg hq, if_neg hq, if_neg (by omega), if_neg (by omega), if_neg (by simp)]
    unfold turnP
    rw [if_pos hk, he, hs, Int.toNat_natCast]
theorem stepP_C (hk : kind = 8 ∨ kind = 9) (he : idxL (cId elem) ts[i].f2 0 = (k : Int)) (hid : ts[i].f2[k]?.map (·.f0) = some elem) (hkl : k < ts[i].f2.length) (h0 : 0 ≤ ts[i].f2[k].f3) (up : Bool) :
    stepP v ts nx kind table elem up = stepR v ts nx i (turnCE ts[i] k up) (turnC ts[i] k ((rd_T75 ts[i].f2 (k : Int)).f3 + byI up)) := by
  have hs : elemI ts[i] kind elem = (rd_T75 ts[i].f2 (k : Int)).f3 := by rw [elemI_c _ hk, he, if_pos (by omega)]
  have hf : (rd_T75 ts[i].f2 (k : Int)).f0 = elem := by
    rw [rd75 _ _ hkl]
    rw [List.getElem?_eq_getElem hkl] at hid
    simpa using hid
  rw [step_some h hi hil hs (by rw [rd75 _ _ hkl]; exact h0) up]
  unfold stepR turnCE
  rw [hf, he]
  by_cases hq : (up = true ∧ (rd_T75 ts[i].f2 (k : Int)).f3 = 4) ∨ (up = false ∧ (rd_T75 ts[i].f2 (k : Int)).f3 = 0)
  · rw [if_pos hq, if_pos hq, if_pos (by decide)]
  · rw [if_neg hq, if_neg hq]
    by_cases hz : k = 0
    · rw [if_pos ⟨by omega, by omega⟩, if_pos hz, if_pos (by decide)]
    · rw [if_neg (by omega), if_neg hz]
      by_cases hu : up = false ∧ (rd_T75 ts[i].f2 (k : Int)).f3 = 1 ∧ usedB elem ts[i].f3 = true
      · rw [if_pos ⟨hu.1, hu.2.1, hk, hu.2.2⟩, if_pos hu, if_pos (by decide)]
      · rw [if_neg (fun h => hu ⟨h.1, h.2.1, h.2.2.2⟩), if_neg hu, if_neg (by simp)]
        unfold turnP
        rw [if_neg (by omega), if_pos hk, he, hs, Int.toNat_natCast]
theorem stepP_N (hk : kind = 10 ∨ kind = 11) (he : idxL (cId elem) ts[i].f2 0 = (k : Int)) (hkl : k < ts[i].f2.length) (h0 : 0 ≤ ts[i].f2[k].f4) (up : Bool) :
    stepP v ts nx kind table elem up = stepR v ts nx i (turnNE ts[i] k up) (turnN ts[i] k ((rd_T75 ts[i].f2 (k : Int)).f4 + byI up)) := by
  have hs : elemI ts[i] kind elem = (rd_T75 ts[i].f2 (k : Int)).f4 := by rw [elemI_n _ hk, he, if_pos (by omega)]
  rw [step_some h hi hil hs (by rw [rd75 _ _ hkl]; exact h0) up]
  unfold stepR turnNE
  rw [he]
  by_cases hq : (up = true ∧ (rd_T75 ts[i].f2 (k : Int)).f4 = 4) ∨ (up = false ∧ (rd_T75 ts[i].f2 (k : Int)).f4 = 0)
  · rw [if_pos hq, if_pos hq, if_pos (by decide)]
  · rw [if_neg hq, if_neg hq]
    by_cases hz : k = 0
    · rw [if_pos ⟨by omega, by omega⟩, if_pos hz, if_pos (by decide)]
    · rw [if_neg (by omega), if_neg hz, if_neg (by omega), if_neg (by simp)]
      unfold turnP
      rw [if_neg (by omega), if_neg (by omega), he, hs, Int.toNat_natCast]
end
theorem idx_id {l : List S75} {elem : Int} {k : Nat} (he : idxL (cId elem) l 0 = (k : Int)) (hkl : k < l.length) : l[k]?.map (·.f0) = some elem := by
  rcases idxL_at (cId elem) l with h | ⟨j, hj, h, hp⟩
  · omega
  · obtain rfl : j = k := by omega
    rw [List.getElem?_eq_getElem hj]
    unfold cId at hp
    simpa using hp
inductive Cls (ts : List S70) (kind table elem : Int) (i k : Nat) (hil : i < ts.length) : Prop
  | X (hk : kind = 6 ∨ kind = 7) (he : idxL (xId elem) ts[i].f3 0 = (k : Int)) (hkl : k < ts[i].f3.length)
  | C (hk : kind = 8 ∨ kind = 9) (he : idxL (cId elem) ts[i].f2 0 = (k : Int)) (hkl : k < ts[i].f2.length)
  | N (hk : kind = 10 ∨ kind = 11) (he : idxL (cId elem) ts[i].f2 0 = (k : Int)) (hkl : k < ts[i].f2.length)
theorem cls_of (ts : List S70) (kind table elem : Int) : tS ts kind table elem < 0 ∨ ∃ (i k : Nat) (hil : i < ts.length), idxL (tId table) ts 0 = (i : Int) ∧ Cls ts kind table elem i k hil := by
  rcases idxL_at (tId table) ts with hi | ⟨i, hil, hi, -⟩
  · left; unfold tS; rw [hi, if_neg (by omega)]; omega
  have hs : tS ts kind table elem = elemI ts[i] kind elem := by unfold tS; rw [hi, if_pos (by omega), rd70 _ _ hil]
  rw [hs]
  rcases finder_cases kind with ⟨-, hk⟩ | ⟨-, hk⟩ | ⟨-, hk⟩ | ⟨-, hk⟩
  · left; rw [elemI_0 _ hk elem]; omega
  · rw [elemI_x _ hk]
    rcases idxL_at (xId elem) ts[i].f3 with hq | ⟨k, hkl, hq, -⟩
    · left; rw [hq, if_neg (by omega)]; omega
    · exact .inr ⟨i, k, hil, hi, .X hk hq hkl⟩
  · rw [elemI_c _ hk]
    rcases idxL_at (cId elem) ts[i].f2 with hq | ⟨k, hkl, hq, -⟩
    · left; rw [hq, if_neg (by omega)]; omega
    · exact .inr ⟨i, k, hil, hi, .C hk hq hkl⟩
  · rw [elemI_n _ hk]
    rcases idxL_at (cId elem) ts[i].f2 with hq | ⟨k, hkl, hq, -⟩
    · left; rw [hq, if_neg (by omega)]; omega
    · exact .inr ⟨i, k, hil, hi, .N hk hq hkl⟩
def FoundAt (w W : World) (E g cap : Nat) (ts : List S70) (i : Nat) (up : Bool) (c : Int) (t : S70) : Prop :=
  Calls Tryd.prog 108 #[.pointer (some ⟨E, 0, none⟩), .bool up] W (TurnPost w W g ts.length cap ts i c t)
set_option maxHeartbeats 1000000 in
theorem found_calls (v : Int) (ts : List S70) (nx : Int) (kind table elem : Int) (up : Bool) (h : nxtE v ts nx = 0) (i k : Nat) (hil : i < ts.length) (hi : idxL (tId table) ts 0 = (i : Int)) (hcl : Cls ts kind table elem i k hil)
    (w W : World) (X g cap : Nat) (hB : Below w.heap.size w W) (hS : Kd.S k70 70 W w.heap.size (fun _ => True) (.slice (some ⟨g, 0, none⟩) ts.length cap) ts) (hX : W.heap[X]? = some (.cells #[.int .i64 (v + 1), .slice (some ⟨g, 0, none⟩) ts.length cap, .int .i64 nx] 28 (0, 0))) :
    ∃ c t, stepP v ts nx kind table elem up = stepR v ts nx i c t ∧ Calls Tryd.prog 107 #[.pointer (some ⟨X, 0, none⟩), .int .i64 kind, .int .i64 table, .int .i64 elem] W fun e W' => ∃ E, e = .returned (.tuple #[.pointer (some ⟨E, 0, none⟩), .bool true]) ∧ Below W.heap.size W W' ∧ FoundAt w W' E g cap ts i up c t := by
  obtain ⟨-, hlc, hC⟩ := Kd.S_reads' hS
  obtain ⟨hsch, hv⟩ := nxtE_eq h
  obtain ⟨oki, cv, iv, hL⟩ := lend hS hil
  have htb := schB_tab hsch _ (List.getElem_mem hil)
  have hm : ts[i] ∈ ts := List.getElem_mem hil
  cases hcl with
  | X hk he hkl =>
    have h0 := (stIn_pos hsch ⟨_, hm, .inr ⟨_, List.getElem_mem hkl, rfl⟩⟩).1
    refine ⟨_, _, stepP_X h hi hil hk he hkl h0 up, ?_⟩
    have hfk : finder kind = .func (.func 146) #[] #[] := by unfold finder; rw [if_pos hk]
    refine (find6_yes X (v + 1) nx kind table elem ts ⟨g, 0, none⟩ cap i k W hfk hX hC hi hil he hkl).mono ?_
    rintro e W' ⟨E, a3, rfl, hb, hel, -, cc, hsl⟩
    refine ⟨E, rfl, hb, ?_⟩
    obtain ⟨gi, ci, hgi, -⟩ := Kd.R_form hL.inds (by omega)
    have hc3 := hL.cell 3 rfl
    rw [add_plain] at hsl hel
    rw [show (⟨g, i * 5, none⟩ : Addr).block = g from rfl, show (⟨g, i * 5, none⟩ : Addr).off = i * 5 from rfl, hc3, hgi] at hsl
    injection hsl with hsl
    injection hsl with hsl _ _
    injection hsl with hsl
    subst hsl
    rw [add_plain] at hel
    cases up with
    | true => exact turnX_up w W' g ts.length cap ts i oki ts[i] cv iv gi _ ci E k (below_then hB hB.size hb) (hL.step hb) htb hgi hkl hel
    | false => exact turnX_dn w W' g ts.length cap ts i oki ts[i] cv iv gi _ ci E k (below_then hB hB.size hb) (hL.step hb) htb hgi hkl hel
  | C hk he hkl =>
    have h0 := (stIn_pos hsch ⟨_, hm, .inl ⟨_, List.getElem_mem hkl, .inl rfl⟩⟩).1
    refine ⟨_, _, stepP_C h hi hil hk he (idx_id he hkl) hkl h0 up, ?_⟩
    have hfk : finder kind = .func (.func 147) #[] #[] := by unfold finder; rw [if_neg (by omega), if_pos hk]
    refine (find_ccol_yes X (v + 1) nx kind table elem ts ⟨g, 0, none⟩ cap i k W hfk hX hC hi hil he hkl).mono ?_
    rintro e W' ⟨E, a3, rfl, hb, hel, -, cc, hsl⟩
    refine ⟨E, rfl, hb, ?_⟩
    obtain ⟨gi, ci, hgi, -⟩ := Kd.R_form hL.cols (by omega)
    have hc3 := hL.cell 2 rfl
    rw [add_plain] at hsl hel
    rw [show (⟨g, i * 5, none⟩ : Addr).block = g from rfl, show (⟨g, i * 5, none⟩ : Addr).off = i * 5 from rfl, hc3, hgi] at hsl
    injection hsl with hsl
    injection hsl with hsl _ _
    injection hsl with hsl
    subst hsl
    rw [add_plain] at hel
    cases up with
    | true => exact turnC_up w W' g ts.length cap ts i oki ts[i] cv iv gi _ ci E k (below_then hB hB.size hb) (hL.step hb) htb hgi hkl hel
    | false => exact turnC_dn w W' g ts.length cap ts i oki ts[i] cv iv gi _ ci E k (below_then hB hB.size hb) (hL.step hb) htb hgi hkl hel
  | N hk he hkl =>
    have h0 := (stIn_pos hsch ⟨_, hm, .inl ⟨_, List.getElem_mem hkl, .inr rfl⟩⟩).1
    refine ⟨_, _, stepP_N h hi hil hk he hkl h0 up, ?_⟩
    have hfk : finder kind = .func (.func 148) #[] #[] := by unfold finder; rw [if_neg (by omega), if_neg (by omega), if_pos hk]
    refine (find_cnul_yes X (v + 1) nx kind table elem ts ⟨g, 0, none⟩ cap i k W hfk hX hC hi hil he hkl).mono ?_
    rintro e W' ⟨E, a3, rfl, hb, hel, -, cc, hsl⟩
    refine ⟨E, rfl, hb, ?_⟩
    obtain ⟨gi, ci, hgi, -⟩ := Kd.R_form hL.cols (by omega)
    have hc3 := hL.cell 2 rfl
    rw [add_plain] at hsl hel
    rw [show (⟨g, i * 5, none⟩ : Addr).block = g from rfl, show (⟨g, i * 5, none⟩ : Addr).off = i * 5 from rfl, hc3, hgi] at hsl
    injection hsl with hsl
    injection hsl with hsl _ _
    injection hsl with hsl
    subst hsl
    rw [add_plain] at hel
    cases up with
    | true => exact turnN_up w W' g ts.length cap ts i oki ts[i] cv iv gi _ ci E k (below_then hB hB.size hb) (hL.step hb) htb hgi hkl hel
    | false => exact turnN_dn w W' g ts.length cap ts i oki ts[i] cv iv gi _ ci E k (below_then hB hB.size hb) (hL.step hb) htb hgi hkl hel
set_option maxRecDepth 100000 in
set_option maxHeartbeats 8000000 in
theorem stepG_calls (v : Int) (ts : List S70) (nx : Int) (kind table elem : Int) (up : Bool) (hwf : ∀ t ∈ ts, TabWf t) (hv64 : -9223372036854775808 ≤ v ∧ v < 9223372036854775808) (A : Option Addr) (c : Nat) (w : World) (hG : GL w) (hc : ts.length ≤ c) (hC : k70.C w A ts.length ts) :
    Calls Tryd.prog 52 #[.agg #[.int .i64 v, .slice A ts.length c, .int .i64 nx], .int .i64 kind, .int .i64 table, .int .i64 elem, .bool up] w (TellsE w (stepP v ts nx kind table elem up)) := by
  obtain ⟨w0, hw0⟩ : ∃ w0, w0 = (w.alloc (.cells #[.int .i64 v, .slice A ts.length c, .int .i64 nx] 28)).alloc (.cells #[.int .i64 0, .slice none 0 0, .int .i64 0] 28) := ⟨_, rfl⟩
  have hb0 : Below w.heap.size w w0 := by rw [hw0]; exact below_alloc (below_alloc (Below.refl _ _) _) _
  have hB0 : CopB w w0 v nx (.slice A ts.length c) := by
    rw [hw0]
    refine ⟨blk_alloc (heap_alloc_new w _) _, ?_⟩
    have := heap_alloc_new (w.alloc (.cells #[.int .i64 v, .slice A ts.length c, .int .i64 nx] 28)) (.cells #[.int .i64 0, .slice none 0 0, .int .i64 0] 28)
    simpa using this
  have HM := Lib.hid (cnext_calls v ts nx hwf hv64 A c w0 (hG.of_below hb0) hc (Kd.C_below hC hb0))
  have hx0 := blk_cell (j := 0) (v := .int .i64 v) hB0.b0 rfl
  have hx1 := blk_cell (j := 1) (v := .slice A ts.length c) hB0.b0 rfl
  have hx2 := blk_cell (j := 2) (v := .int .i64 nx) hB0.b0 rfl
  have HB0 := Aside0.mk hb0
  have HX0 := Aside0.mk hB0
  have HW0 := Lib.hid hw0
  rw [hw0] at HM hx0 hx1 hx2
  obtain ⟨R, hR⟩ : ∃ R, stepP v ts nx kind table elem up = R := ⟨_, rfl⟩
  rw [hR]
  clear hb0 hB0 hC hG hwf hw0
  by_cases hn : nxtE v ts nx = 0
  rotate_left
  · have HR := Lib.hid (show R = noTold (nxtE v ts nx) by rw [← hR, nxtE_ne hn])
    obtain ⟨er, her⟩ : ∃ er, nxtE v ts nx = er := ⟨_, rfl⟩
    rw [her] at HR hn
    have hq : (er != 0) = true := by simpa using hn
    have HER := Lib.hid her
    clear hR her
    go_enter Tryd.func52, Tryd.ntmps52
    go_wp2_with fail
    refine HM.out.mono ?_
    rw [← HW0.out]
    rintro e w1 ⟨hb1, ⟨-, rfl⟩ | ⟨h, -⟩⟩
    rotate_left
    · exact absurd (HER.out.symm.trans h) hn
    rw [HER.out]
    have hX1 := HX0.out.step hb1
    have hBa := below_alloc (below_then HB0.out HB0.out.size hb1) (.cells #[.int .i64 0, .slice none 0 0, .int .i64 0] 28)
    have hY := blk_alloc hX1.b1 (.cells #[.int .i64 0, .slice none 0 0, .int .i64 0] 28)
    have HB1 := Aside0.mk hBa
    have f0 := blk_frozen hX1.b1 0
    have f1 := blk_frozen hX1.b1 1
    have f2 := blk_frozen hX1.b1 2
    have c0 := blk_cell (j := 0) (v := .int .i64 0) hX1.b1 rfl
    have c1 := blk_cell (j := 1) (v := .slice none 0 0) hX1.b1 rfl
    have c2 := blk_cell (j := 2) (v := .int .i64 0) hX1.b1 rfl
    have hl : w.heap.size ≤ w.heap.size + 1 := by omega
    have hx3 := lt_of_block hX1.b1
    have hz := blk_alloc (blk_put (blk_put (blk_put hX1.b1 0 (.int .i64 0) rfl) 1 (.slice none 0 0) rfl) 2 (.int .i64 0) rfl) (.cells #[.int .i64 0, .slice none 0 0, .int .i64 0] 28)
    have hbz := below_alloc ((((below_then HB0.out HB0.out.size hb1).setCell (p := ⟨w.heap.size + 1, 0, none⟩) hl (.int .i64 0)).setCell (p := ⟨w.heap.size + 1, 1, none⟩) hl (.slice none 0 0)).setCell (p := ⟨w.heap.size + 1, 2, none⟩) hl (.int .i64 0)) (.cells #[.int .i64 0, .slice none 0 0, .int .i64 0] 28)
    have HBZ := Aside0.mk (And.intro hz hbz)
    clear hb1 hX1 hBa hY hx0 hx1 hx2 hz hbz
    go_wp2
    refine bodyPost_ret (v := .tuple #[.agg #[.int .i64 0, .slice none 0 0, .int .i64 0], .int .i64 er]) (by have r0 := blk_cell (j := 0) (v := .int .i64 0) HBZ.out.1 rfl; have r1 := blk_cell (j := 1) (v := .slice none 0 0) HBZ.out.1 rfl; have r2 := blk_cell (j := 2) (v := .int .i64 0) HBZ.out.1 rfl; simp [results, Tryd.results52, go_sem, r0, r1, r2]) rfl (tellse_no HR.out HBZ.out.2)
  have HN := Lib.hid hn
  obtain ⟨er, her⟩ : ∃ er, nxtE v ts nx = er := ⟨_, rfl⟩
  rcases cls_of ts kind table elem with hneg | ⟨i, k, hil, hi, hcl⟩
  · have HR := Lib.hid (show R = noTold 5 by rw [← hR, stepP_none hn hneg])
    have HNG := Lib.hid hneg
    have HSC := Lib.hid (nxtE_eq hn).1
    clear hR hneg hn her
    go_enter Tryd.func52, Tryd.ntmps52
    go_wp2_with fail
    refine HM.out.mono ?_
    rw [← HW0.out]
    rintro e w1 ⟨hb1, ⟨h, -⟩ | ⟨-, u, rfl, hS⟩⟩
    · exact absurd HN.out h
    obtain ⟨Au, cu, rfl, lcu, hCu⟩ := Kd.S_reads hS
    have hX1 := HX0.out.step hb1
    have hba := below_alloc (Below.refl _ w1) (.cells #[.int .i64 (v + 1), .slice Au ts.length cu, .int .i64 nx] 28)
    have hX2 := hX1.step hba
    have HX2 := Aside0.mk hX2
    have HB2 := Aside0.mk (below_then (below_then HB0.out HB0.out.size hb1) (by have := HB0.out.size; have := hb1.size; omega) hba)
    have hZ := heap_alloc_new w1 (.cells #[.int .i64 (v + 1), .slice Au ts.length cu, .int .i64 nx] 28)
    have HQ := Lib.hid (find_calls w1.heap.size (v + 1) nx kind table elem ts Au cu _ hZ (Kd.C_below hCu hba))
    clear hb1 hS hCu hX1 hba hX2 hZ hx0 hx1 hx2
    go_wp2_with fail
    refine HQ.out.mono ?_
    rintro e w3 ⟨hb3, ⟨-, p, rfl⟩ | ⟨E, pa, st, k, ix, rl, rfl, hel, hst, hin⟩⟩
    rotate_left
    · exact absurd (stIn_pos HSC.out hin).1 (by have := HNG.out; omega)
    have hX3 := HX2.out.step hb3
    have HB3 := Aside0.mk (below_then HB2.out HB2.out.size hb3)
    have f0 := blk_frozen hX3.b1 0
    have f1 := blk_frozen hX3.b1 1
    have f2 := blk_frozen hX3.b1 2
    have c0 := blk_cell (j := 0) (v := .int .i64 0) hX3.b1 rfl
    have c1 := blk_cell (j := 1) (v := .slice none 0 0) hX3.b1 rfl
    have c2 := blk_cell (j := 2) (v := .int .i64 0) hX3.b1 rfl
    have hl : w.heap.size ≤ w.heap.size + 1 := by omega
    clear hb3 hX3
    go_wp2
    refine bodyPost_ret (v := .tuple #[.agg #[.int .i64 0, .slice none 0 0, .int .i64 0], .int .i64 5]) (by simp [results, Tryd.results52, go_sem, c0, c1, c2]) rfl (tellse_no HR.out (((HB3.out.setCell hl _).setCell hl _).setCell hl _))
  have HF := Lib.hid (fun W X g cap hB hS hX => found_calls v ts nx kind table elem up hn i k hil hi hcl w W X g cap hB hS hX)
  have hpos : 0 < ts.length := by omega
  have HRR := Lib.hid hR
  clear hR hn her hi hcl
  go_enter Tryd.func52, Tryd.ntmps52
  go_wp2_with fail
  refine HM.out.mono ?_
  rw [← HW0.out]
  rintro e w1 ⟨hb1, ⟨h, -⟩ | ⟨-, u, rfl, hS⟩⟩
  · exact absurd HN.out h
  have hS' := Kd.S_lower hS HB0.out.size
  obtain ⟨g, cap, rfl, -⟩ := Kd.S_form hS' hpos
  have hX1 := HX0.out.step hb1
  have hba := below_alloc (Below.refl _ w1) (.cells #[.int .i64 (v + 1), .slice (some ⟨g, 0, none⟩) ts.length cap, .int .i64 nx] 28)
  have hB1 := below_then HB0.out HB0.out.size hb1
  have HX2 := Aside0.mk (hX1.step hba)
  have HB2 := Aside0.mk (below_then hB1 hB1.size hba)
  have hZ := heap_alloc_new w1 (.cells #[.int .i64 (v + 1), .slice (some ⟨g, 0, none⟩) ts.length cap, .int .i64 nx] 28)
  obtain ⟨cd, t, hst, hcall⟩ := HF.out _ w1.heap.size g cap HB2.out (Kd.S_below hS' hba) hZ
  have HQ := Lib.hid hcall
  have HST := Lib.hid (HRR.out.symm.trans hst)
  have HZ := Aside0.mk hZ
  have HX1 := Lib.hid (lt_of_block hX1.b1)
  clear hb1 hS hS' hX1 hba hB1 hZ hx0 hx1 hx2 hst hcall HF HRR
  go_wp2_with fail
  refine HQ.out.mono ?_
  rintro e w3 ⟨E, rfl, hb3, hfa⟩
  have HX3 := Aside0.mk (HX2.out.step hb3)
  have HB3 := Aside0.mk (below_then HB2.out HB2.out.size hb3)
  have HZ3 := Aside0.mk (blk_below HZ.out hb3)
  have HFA := Lib.hid hfa
  clear hb3 hfa HQ HZ
  go_wp2_with fail
  refine HFA.out.mono ?_
  rintro e w4 ⟨rfl, hT, hS4⟩
  have hY4 := hT.box HX3.out.b1
  have hZ4 := hT.box HZ3.out
  have hB4 := HB3.out.trans hT.below
  have f0 := blk_frozen hY4 0
  have f1 := blk_frozen hY4 1
  have f2 := blk_frozen hY4 2
  have c0 := blk_cell (j := 0) (v := .int .i64 0) hY4 rfl
  have c1 := blk_cell (j := 1) (v := .slice none 0 0) hY4 rfl
  have c2 := blk_cell (j := 2) (v := .int .i64 0) hY4 rfl
  have y0 := blk_cell (j := 0) (v := .int .i64 (v + 1)) hZ4 rfl
  have y1 := blk_cell (j := 1) (v := .slice (some ⟨g, 0, none⟩) ts.length cap) hZ4 rfl
  have y2 := blk_cell (j := 2) (v := .int .i64 nx) hZ4 rfl
  have hl : w.heap.size ≤ w.heap.size + 1 := by omega
  have HB4 := Aside0.mk hB4
  have HY4 := Aside0.mk hY4
  have HS4 := Lib.hid hS4
  clear hT hY4 hZ4 hB4 hS4 HFA
  by_cases hc0 : cd = 0
  · have HR := Lib.hid (show R = ⟨v + 1, ts.set i t, nx, 0, 0, 0⟩ by rw [HST.out]; unfold stepR; rw [if_neg (fun h => h hc0)])
    have HS5 := Aside0.mk (HS4.out hc0)
    subst hc0
    go_wp2
    refine bodyPost_ret (v := .tuple #[.agg #[.int .i64 (v + 1), .slice (some ⟨g, 0, none⟩) ts.length cap, .int .i64 nx], .int .i64 0]) (by simp [results, Tryd.results52, go_sem, c0, c1, c2]) rfl ?_
    exact tellse_ok HR.out (R_set3 (Kd.S_R HS5.out) HY4.out) (((HB4.out.setCell hl _).setCell hl _).setCell hl _)
  · have HR := Lib.hid (show R = noTold cd by rw [HST.out]; unfold stepR; rw [if_pos hc0])
    have hq : (cd != 0) = true := by simpa using hc0
    clear hc0
    go_wp2
    refine bodyPost_ret (v := .tuple #[.agg #[.int .i64 0, .slice none 0 0, .int .i64 0], .int .i64 cd]) (by simp [results, Tryd.results52, go_sem, c0, c1, c2]) rfl (tellse_no HR.out (((HB4.out.setCell hl _).setCell hl _).setCell hl _))
end Go.Proofs.YtjgomlcdmpcoaaaDoor.H
namespace Go.Proofs.YtjgomlcdmpcoaaaDoor.H
open Go.RowKit Go.Proofs.YtjgomlcdmpcoaaaDoorW.PrintWords Go.Proofs.YtjgomlcdmpcoaaaDoorW.PrintLast Go.Proofs.YtjgomlcdmpcoaaaDoorW.PrintMore
open Go.Proofs.YtjgomlcdmpcoaaaDoor.D Go.Proofs.YtjgomlcdmpcoaaaDoor
set_option linter.unusedVariables false
set_option linter.unusedSimpArgs false
theorem awake19_begin : beginP addIndexP 1 [tT [] 3] 2 sI = ⟨2, [tT [xI 1] 4], 2, 1, 3, 0⟩ := by kernel_rfl
theorem awake19_0 : stepP 2 [tT [xI 1] 4] 2 6 1 3 true = ⟨3, [tT [xI 2] 4], 2, 0, 0, 0⟩ := by kernel_rfl
theorem awake19_1 : stepP 3 [tT [xI 2] 4] 2 6 1 3 true = ⟨4, [tT [xI 3] 4], 2, 0, 0, 0⟩ := by kernel_rfl
theorem awake19_2 : stepP 4 [tT [xI 3] 4] 2 6 1 3 true = ⟨5, [tT [xI 4] 4], 2, 0, 0, 0⟩ := by kernel_rfl
theorem awake19_s1 : stateI 2 [tT [xI 1] 4] 2 6 1 3 = 1 := by kernel_rfl
theorem awake19_s4 : stateI 5 [tT [xI 4] 4] 2 6 1 3 = 4 := by kernel_rfl
theorem awake19_st (n : Nat) (h : n < 3) : stepP (2 + (n : Int)) [tT [xI (1 + (n : Int))] 4] 2 6 1 3 true = ⟨2 + ((n + 1 : Nat) : Int), [tT [xI (1 + ((n + 1 : Nat) : Int))] 4], 2, 0, 0, 0⟩ := by
  match n, h with
  | 0, _ => exact awake19_0
  | 1, _ => exact awake19_1
  | 2, _ => exact awake19_2
set_option maxHeartbeats 1000000 in
theorem num19_calls (n : Int) (w : World) : Calls Tryd.prog 50 #[.int .i64 n] w fun e w' => e = .returned (.int .i64 n) ∧ w = w' := by
  go_enter Tryd.func50, Tryd.ntmps50
  go_wp2
  go_ret
  exact ⟨rfl, rfl⟩
structure AwSt (w W : World) (Y : Nat) (v : Int) (A : Option Addr) (c : Nat) (ts : List S70) (nx : Int) : Prop where
  below : Below w.heap.size w W
  box : W.heap[Y]? = some (.cells #[.int .i64 v, .slice A ts.length c, .int .i64 nx] 28 (0, 0))
  row : k70.R 70 W w.heap.size (fun _ => True) (.slice A ts.length c) ts
theorem AwSt.step {w W W1 : World} {Y : Nat} {v nx : Int} {A : Option Addr} {c : Nat} {ts : List S70} (h : AwSt w W Y v A c ts nx) (hb : Below W.heap.size W W1) : AwSt w W1 Y v A c ts nx := ⟨below_then h.below h.below.size hb, blk_below h.box hb, Kd.R_below h.row hb⟩
theorem AwSt.new {w W : World} {v nx : Int} {A : Option Addr} {c : Nat} {ts : List S70} (hb : Below w.heap.size w W) (hr : k70.R 70 W w.heap.size (fun _ => True) (.slice A ts.length c) ts) : AwSt w (W.alloc (.cells #[.int .i64 v, .slice A ts.length c, .int .i64 nx] 28)) W.heap.size v A c ts nx :=
  ⟨below_alloc hb _, heap_alloc_new W _, Kd.R_below hr (below_alloc (Below.refl _ _) _)⟩
theorem AwSt.put {w W W1 : World} {Y : Nat} {v nx v' nx' : Int} {A A' : Option Addr} {c c' : Nat} {ts ts' : List S70} (h : AwSt w W Y v A c ts nx) (hY : w.heap.size ≤ Y) (hb : Below W.heap.size W W1) (hr : k70.R 70 W1 W.heap.size (fun _ => True) (.slice A' ts'.length c') ts') :
    AwSt w (((W1.setCell ⟨Y, 0, none⟩ (.int .i64 v')).setCell ⟨Y, 1, none⟩ (.slice A' ts'.length c')).setCell ⟨Y, 2, none⟩ (.int .i64 nx')) Y v' A' c' ts' nx' := by
  have h1 := h.step hb
  refine ⟨((h1.below.setCell (p := ⟨Y, 0, none⟩) hY _).setCell (p := ⟨Y, 1, none⟩) hY _).setCell (p := ⟨Y, 2, none⟩) hY _, ?_, R_set3 (Kd.R_lower hr h.below.size) h1.box⟩
  exact blk_put (blk_put (blk_put h1.box 0 (.int .i64 v') rfl) 1 (.slice A' ts'.length c') rfl) 2 (.int .i64 nx') rfl
set_option maxRecDepth 100000 in
set_option maxHeartbeats 8000000 in
theorem awake19_calls (w : World) (hG : GL w) : Calls Tryd.prog 47 #[] w fun e w' => e = .returned (.bool true) ∧ Below w.heap.size w w' := by
  obtain ⟨w0, hw0⟩ : ∃ w0, w0 = (w.alloc (.cells #[.string ⟨#[97]⟩, .string ⟨#[98]⟩] 9)).alloc (.cells #[.int .i64 2, .int .i64 5] 3) := ⟨_, rfl⟩
  have hb0 : Below w.heap.size w w0 := by rw [hw0]; exact below_alloc (below_alloc (Below.refl _ _) _) _
  have hk := sT_K w
  rw [← hw0] at hk
  have H1 := Lib.hid (createG_calls 0 [] 0 sT (fun t ht => by cases ht) (by decide) none 0 w0 (hG.of_below hb0) (Nat.le_refl _) (nil_C _ _) _ hk sT_ok)
  rw [awake_create, hw0] at H1
  rw [hw0] at hb0
  have HB0 := Aside0.mk hb0
  have HG := Aside0.mk hG
  clear hk hb0 hG hw0
  go_enter Tryd.func47, Tryd.ntmps47
  go_wp2_with fail
  refine H1.out.mono ?_
  rintro e w1 ⟨A1, c1, he, r1, hb1⟩
  have he' : e = .returned (.tuple #[.agg #[.int .i64 1, .slice A1 1 c1, .int .i64 2], .int .i64 0]) := he
  subst he'
  have r1' : k70.R 70 w1 _ (fun _ => True) (.slice A1 1 c1) [tT [] 3] := r1
  obtain ⟨-, l1', g1'⟩ := Kd.R_reads' r1'
  have HB1 := Aside0.mk (below_then HB0.out (by simp; omega) hb1)
  have hb2 := below_alloc (Below.refl _ w1) (.cells #[.int .i64 1, .slice A1 1 c1, .int .i64 2] 28)
  have hb3 := below_alloc hb2 (.cells #[.string ⟨#[98]⟩] 9)
  have HB3 := Aside0.mk (below_then HB1.out HB1.out.size hb3)
  have H2 := Lib.hid (beginG_of 99 addIndexP 1 [tT [] 3] 2 sI (.inr ⟨by rfl, addIndexG_upd, by decide, enters99, eql_f99⟩) (awake_wf _ _ (fun x hx => by cases hx)) (by decide) A1 c1 _ (HG.out.of_below HB3.out) l1' (Kd.C_below g1' hb3) _ (sI_K (w1.alloc (.cells #[.int .i64 1, .slice A1 1 c1, .int .i64 2] 28))) sI_ok)
  rw [awake19_begin, show (w1.alloc (.cells #[.int .i64 1, .slice A1 1 c1, .int .i64 2] 28)).heap.size = w1.heap.size + 1 by simp] at H2
  clear he r1 r1' hb1 g1' hb2 hb3 H1 HB0
  go_wp2_with fail
  refine H2.out.mono ?_
  rintro e w2 ⟨A2, c2, he, r2, hb2⟩
  have he' : e = .returned (.tuple #[.agg #[.int .i64 2, .slice A2 1 c2, .int .i64 2], .int .i64 1, .int .i64 3, .int .i64 0]) := he
  subst he'
  have r2' : k70.R 70 w2 w.heap.size (fun _ => True) (.slice A2 [tT [xI 1] 4].length c2) [tT [xI 1] 4] := Kd.R_lower r2 HB3.out.size
  have hA := AwSt.new (v := 2) (nx := 2) (below_then HB3.out HB3.out.size hb2) r2'
  have hYw : w.heap.size ≤ w2.heap.size := (below_then HB3.out HB3.out.size hb2).size
  obtain ⟨-, l2', g2'⟩ := Kd.R_reads' hA.row
  have H3 := Lib.hid (cstate_calls 2 [tT [xI 1] 4] 2 6 1 3 (awake_wf _ _ (xI_wf _)) A2 c2 _ (HG.out.of_below hA.below) l2' g2')
  rw [awake19_s1] at H3
  have HA := Aside0.mk hA
  clear he r2 r2' hb2 hA g2' H2 HB3
  go_wp2_with fail
  refine H3.out.mono ?_
  rintro e w3 ⟨he, hb3⟩
  have he' : e = .returned (.tuple #[.int .i64 1, .bool true]) := he
  subst he'
  have HA3 := Aside0.mk (HA.out.step hb3)
  have HYW := Lib.hid hYw
  clear he hb3 HA H3 HB1
  go_wp2_with fail
  go_loopg [9, 40, 45, 46] 3 (fun gg u9 _ _ _ wr => ∃ n : Nat, ∃ (A : Option Addr) (c : Nat), n ≤ 3 ∧ 3 - n ≤ gg ∧ u9 = .int .i64 n ∧ Aside0 (AwSt w wr w2.heap.size (2 + (n : Int)) A c [tT [xI (1 + (n : Int))] 4] 2))
  case atStart => exact ⟨0, A2, c2, by omega, by omega, rfl, HA3⟩
  case round =>
    clear HA3
    obtain ⟨n, A, c, hn, hg, rfl, HS⟩ := hrel
    have y0 := blk_cell (j := 0) (v := .int .i64 (2 + (n : Int))) HS.out.box rfl
    have y1 := blk_cell (j := 1) (v := .slice A 1 c) HS.out.box rfl
    have y2 := blk_cell (j := 2) (v := .int .i64 2) HS.out.box rfl
    obtain ⟨-, lr, gr⟩ := Kd.R_reads' HS.out.row
    by_cases hlt : n < 3
    · have hltz : (n : Int) < 3 := by omega
      have H4 := Lib.hid (stepG_calls (2 + (n : Int)) [tT [xI (1 + (n : Int))] 4] 2 6 1 3 true (awake_wf _ _ (xI_wf _)) (by omega) A c wr (HG.out.of_below HS.out.below) lr gr)
      rw [awake19_st n hlt] at H4
      clear gr
      go_wp2_with fail
      refine H4.out.mono ?_
      rintro e w4 ⟨A4, c4, he, r4, hb4⟩
      have he' : e = .returned (.tuple #[.agg #[.int .i64 (2 + ((n + 1 : Nat) : Int)), .slice A4 1 c4, .int .i64 2], .int .i64 0]) := he
      subst he'
      have hx := (HS.out.step hb4).box
      have f0 := blk_frozen hx 0
      have f1 := blk_frozen hx 1
      have f2 := blk_frozen hx 2
      have z0 := blk_cell (j := 0) (v := .int .i64 (2 + (n : Int))) hx rfl
      have z1 := blk_cell (j := 1) (v := .slice A 1 c) hx rfl
      have z2 := blk_cell (j := 2) (v := .int .i64 2) hx rfl
      have HF := Aside0.mk (HS.out.put (v' := 2 + ((n + 1 : Nat) : Int)) (nx' := 2) HYW.out hb4 r4)
      clear he r4 hb4 hx y0 y1 y2 H4
      go_wp2
      go_roundg (3 - (n + 1))
      case measure => omega
      case rel => exact ⟨n + 1, A4, c4, by omega, by omega, by go_num, HF⟩
    · have hltz : ¬ (n : Int) < 3 := by omega
      obtain rfl : n = 3 := by omega
      have H5 := Lib.hid (cstate_calls 5 [tT [xI 4] 4] 2 6 1 3 (awake_wf _ _ (xI_wf _)) A c wr (HG.out.of_below HS.out.below) lr gr)
      rw [awake19_s4] at H5
      clear gr
      go_wp2_with fail
      refine H5.out.mono ?_
      rintro e w5 ⟨he, hb5⟩
      have he' : e = .returned (.tuple #[.int .i64 4, .bool true]) := he
      subst he'
      have HB5 := Aside0.mk (HS.out.step hb5).below
      have HNUM := Lib.hid (fun W => num19_calls 0 W)
      clear he hb5 H5 y0 y1 y2
      go_wp2_with (go_at_call 50; refine (HNUM.out _).mono ?_; rintro e w6 ⟨rfl, rfl⟩)
      go_ret
      exact ⟨rfl, HB5.out⟩
end Go.Proofs.YtjgomlcdmpcoaaaDoor.H


namespace Go.Proofs.YtjgomlcdmpcoaaaDoor.H
open Go.RowKit Go.Proofs.YtjgomlcdmpcoaaaDoorW.PrintWords Go.Proofs.YtjgomlcdmpcoaaaDoorW.PrintLast Go.Proofs.YtjgomlcdmpcoaaaDoorW.PrintMore
open Go.Proofs.YtjgomlcdmpcoaaaDoor.D Go.Proofs.YtjgomlcdmpcoaaaDoor
set_option linter.unusedVariables false
set_option linter.unusedSimpArgs false
set_option maxRecDepth 100000 in
set_option maxHeartbeats 4000000 in
theorem ints_eq (l : List Int) (A B : Option Addr) (c d : Nat) (w : World) (hA : (Kd.int .i64).C w A l.length l) (hB : (Kd.int .i64).C w B l.length l) :
    Calls Tryd.prog 111 #[.slice A l.length c, .slice B l.length d] w fun e w' => e = .returned (.bool true) ∧ Below w.heap.size w w' := by
  have HA := Aside0.mk hA
  have HB := Aside0.mk hB
  have big := hA.2.1
  clear hA hB
  go_enter Tryd.func111, Tryd.ntmps111
  go_wp2_with fail
  go_loopg [5] l.length (fun gg u3 wr => ∃ k : Nat, k ≤ l.length ∧ l.length - k ≤ gg ∧ u3 = .int .i64 k ∧ Aside0 (Below w.heap.size w wr))
  case atStart => exact ⟨0, Nat.zero_le _, by omega, rfl, ⟨Below.refl _ _⟩⟩
  case round =>
    obtain ⟨k, hk, hg, rfl, HT⟩ := hrel
    by_cases hlt : k < l.length
    · have hltz : (k : Int) < (l.length : Int) := by omega
      have hk0 : (0 : Int) ≤ (k : Int) := by omega
      obtain ⟨ad, eA, p0⟩ := Kd.at_int (Kd.C_below HA.out HT.out) (k : Int) (by omega) (by omega)
      cases eA
      obtain ⟨bd, eB, q0⟩ := Kd.at_int (Kd.C_below HB.out HT.out) (k : Int) (by omega) (by omega)
      cases eB
      simp only [Int.toNat_natCast] at p0 q0
      go_wp2_with fail
      go_quiet (fail)
      go_wp2
      go_roundg (l.length - (k + 1))
      case measure => omega
      case rel => exact ⟨k + 1, by omega, by omega, by go_num, ⟨pw_below_drewN HT.out _⟩⟩
    · have hltz : ¬ (k : Int) < (l.length : Int) := by omega
      go_wp2
      go_ret
      exact ⟨rfl, HT.out⟩
structure SmSt (w wr : World) (b1 b2 : Array Value) : Prop where
  below : Below w.heap.size w wr
  x1 : wr.heap[w.heap.size]? = some (.cells b1 70 (0, 0))
  x2 : wr.heap[w.heap.size + 1]? = some (.cells b2 70 (0, 0))
theorem SmSt.step {w wr w' : World} {b1 b2 : Array Value} (h : SmSt w wr b1 b2) (hb : Below wr.heap.size wr w') : SmSt w w' b1 b2 :=
  ⟨below_then h.below h.below.size hb, blk_below h.x1 hb, blk_below h.x2 hb⟩
theorem SmSt.drew {w wr : World} {b1 b2 : Array Value} (h : SmSt w wr b1 b2) (n : Nat) : SmSt w (wr.drewN n) b1 b2 := h.step (pw_below_drewN (Below.refl _ _) n)
theorem SmSt.new (w : World) (b1 b2 : Array Value) : SmSt w ((w.alloc (.cells b1 70)).alloc (.cells b2 70)) b1 b2 := by
  refine ⟨below_alloc (below_alloc (Below.refl _ _) _) _, blk_alloc (heap_alloc_new w _) _, ?_⟩
  have := heap_alloc_new (w.alloc (.cells b1 70)) (.cells b2 70)
  simpa using this
set_option maxRecDepth 100000 in
set_option maxHeartbeats 16000000 in
theorem sametab_eq (t : S70) (A2 B2 A3 B3 : Option Addr) (c2 d2 c3 d3 : Nat) (w : World) (hA2 : k75.C w A2 t.f2.length t.f2) (hB2 : k75.C w B2 t.f2.length t.f2) (hA3 : k98.C w A3 t.f3.length t.f3) (hB3 : k98.C w B3 t.f3.length t.f3) :
    Calls Tryd.prog 56 #[.agg #[.int .i64 t.f0, .string t.f1, .slice A2 t.f2.length c2, .slice A3 t.f3.length c3, .int .i64 t.f4], .agg #[.int .i64 t.f0, .string t.f1, .slice B2 t.f2.length d2, .slice B3 t.f3.length d3, .int .i64 t.f4]] w fun e w' => e = .returned (.bool true) ∧ Below w.heap.size w w' := by
  have HA2 := Aside0.mk hA2
  have HB2 := Aside0.mk hB2
  have HA3 := Aside0.mk hA3
  have HB3 := Aside0.mk hB3
  have big2 := hA2.2.1
  have big3 := hA3.2.1
  have HS := Aside0.mk (SmSt.new w #[.int .i64 t.f0, .string t.f1, .slice A2 t.f2.length c2, .slice A3 t.f3.length c3, .int .i64 t.f4] #[.int .i64 t.f0, .string t.f1, .slice B2 t.f2.length d2, .slice B3 t.f3.length d3, .int .i64 t.f4])
  clear hA2 hB2 hA3 hB3
  go_enter Tryd.func56, Tryd.ntmps56
  go_wp2_with fail
  go_loopg [5] t.f2.length (fun gg u5 wr => ∃ k : Nat, k ≤ t.f2.length ∧ t.f2.length - k ≤ gg ∧ u5 = .int .i64 k ∧ Aside0 (SmSt w wr #[.int .i64 t.f0, .string t.f1, .slice A2 t.f2.length c2, .slice A3 t.f3.length c3, .int .i64 t.f4] #[.int .i64 t.f0, .string t.f1, .slice B2 t.f2.length d2, .slice B3 t.f3.length d3, .int .i64 t.f4]))
  case atStart => exact ⟨0, Nat.zero_le _, by omega, rfl, HS⟩
  case round =>
    obtain ⟨k, hk, hg, rfl, HT⟩ := hrel
    clear HS
    have k2 := (pwC HT.out.x1 2).trans (rfl : _ = some (Value.slice A2 t.f2.length c2))
    have j2 := (pwC HT.out.x2 2).trans (rfl : _ = some (Value.slice B2 t.f2.length d2))
    by_cases hlt : k < t.f2.length
    · have hltz : (k : Int) < (t.f2.length : Int) := by omega
      have hk0 : (0 : Int) ≤ (k : Int) := by omega
      obtain ⟨ad, eA, p0, p1, p2, p3, p4, p5, p6, p7, p8⟩ := at_T75 (Kd.C_below HA2.out HT.out.below) (k : Int) (by omega) (by omega)
      cases eA
      obtain ⟨bd, eB, q0, q1, q2, q3, q4, q5, q6, q7, q8⟩ := at_T75 (Kd.C_below HB2.out HT.out.below) (k : Int) (by omega) (by omega)
      cases eB
      simp only [Int.toNat_natCast] at p0 p1 p2 p3 p4 p5 p6 p7 p8 q0 q1 q2 q3 q4 q5 q6 q7 q8
      generalize rd_T75 t.f2 (k : Int) = c at p0 p1 p2 p3 p4 p5 p6 p7 p8 q0 q1 q2 q3 q4 q5 q6 q7 q8
      go_wp2_with fail
      go_quiet (fail)
      go_wp2
      go_roundg (t.f2.length - (k + 1))
      case measure => omega
      case rel => exact ⟨k + 1, by omega, by omega, by go_num, ⟨HT.out.drew _⟩⟩
    · have hltz : ¬ (k : Int) < (t.f2.length : Int) := by omega
      have HS := HT
      clear HT
      have k3 := (pwC HS.out.x1 3).trans (rfl : _ = some (Value.slice A3 t.f3.length c3))
      have j3 := (pwC HS.out.x2 3).trans (rfl : _ = some (Value.slice B3 t.f3.length d3))
      obtain ⟨wo, hwo⟩ : ∃ wo : World, wo = wr := ⟨_, rfl⟩
      subst hwo
      go_wp2_with fail
      go_loopg [6] t.f3.length (fun gg u6 wr => ∃ k : Nat, k ≤ t.f3.length ∧ t.f3.length - k ≤ gg ∧ u6 = .int .i64 k ∧ Aside0 (SmSt w wr #[.int .i64 t.f0, .string t.f1, .slice A2 t.f2.length c2, .slice A3 t.f3.length c3, .int .i64 t.f4] #[.int .i64 t.f0, .string t.f1, .slice B2 t.f2.length d2, .slice B3 t.f3.length d3, .int .i64 t.f4]))
      case atStart => exact ⟨0, Nat.zero_le _, by omega, rfl, HS⟩
      case round =>
        obtain ⟨k, hk, hg, rfl, HT⟩ := hrel
        clear HS k2 j2 k3 j3
        have k3 := (pwC HT.out.x1 3).trans (rfl : _ = some (Value.slice A3 t.f3.length c3))
        have j3 := (pwC HT.out.x2 3).trans (rfl : _ = some (Value.slice B3 t.f3.length d3))
        by_cases hlt : k < t.f3.length
        · have hltz : (k : Int) < (t.f3.length : Int) := by omega
          have hk0 : (0 : Int) ≤ (k : Int) := by omega
          obtain ⟨ad, X2, x2, eA, p0, p1, p2, p3, p4, lA, gA⟩ := at_T98 (Kd.C_below HA3.out HT.out.below) (k : Int) (by omega) (by omega)
          cases eA
          obtain ⟨bd, Y2, y2, eB, q0, q1, q2, q3, q4, lB, gB⟩ := at_T98 (Kd.C_below HB3.out HT.out.below) (k : Int) (by omega) (by omega)
          cases eB
          simp only [Int.toNat_natCast] at p0 p1 p2 p3 p4 q0 q1 q2 q3 q4
          generalize rd_T98 t.f3 (k : Int) = c at p0 p1 p2 p3 p4 q0 q1 q2 q3 q4 lA gA lB gB
          have HCI := Lib.hid (fun w' (hb : Below wr.heap.size wr w') => ints_eq c.f2 X2 Y2 x2 y2 w' (Kd.C_below gA hb) (Kd.C_below gB hb))
          clear lA gA lB gB
          have l1 : w.heap.size < wr.heap.size := lt_of_block HT.out.x1
          have l2 : w.heap.size + 1 < wr.heap.size := lt_of_block HT.out.x2
          have l3 := World.block_lt_of_cell? wr _ p0
          have l4 := World.block_lt_of_cell? wr _ q0
          go_wp2_with fail
          go_region
          all_goals
            go_wp2_with fail
            have hBw : ∀ (a b : Obj), Below wr.heap.size wr ((wr.alloc a).alloc b).drew := fun a b => below_drew (below_alloc (below_alloc (Below.refl _ _) _) _)
            have hSz : ∀ (a b : Obj), wr.heap.size ≤ ((wr.alloc a).alloc b).drew.heap.size := fun a b => (hBw a b).size
            refine (HCI.out _ (hBw _ _)).mono ?_
            rintro e w3 ⟨rfl, hb3⟩
            have HT3 := Aside0.mk (HT.out.step (below_then (hBw _ _) (hSz _ _) hb3))
            clear hb3 hBw hSz p0 p1 p2 p3 p4 q0 q1 q2 q3 q4 k3 j3 l1 l2 l3 l4 HT
            go_wp2
            go_roundg (t.f3.length - (k + 1))
            case measure => omega
            case rel => exact ⟨k + 1, by omega, by omega, by go_num, HT3⟩
        · have hltz : ¬ (k : Int) < (t.f3.length : Int) := by omega
          go_wp2
          go_ret
          exact ⟨rfl, HT.out.below⟩
end Go.Proofs.YtjgomlcdmpcoaaaDoor.H
namespace Go.Proofs.YtjgomlcdmpcoaaaDoor.H
open Go.RowKit Go.Proofs.YtjgomlcdmpcoaaaDoorW.PrintWords Go.Proofs.YtjgomlcdmpcoaaaDoorW.PrintLast Go.Proofs.YtjgomlcdmpcoaaaDoorW.PrintMore
open Go.Proofs.YtjgomlcdmpcoaaaDoor.D Go.Proofs.YtjgomlcdmpcoaaaDoor
set_option linter.unusedVariables false
set_option linter.unusedSimpArgs false
structure SsSt (w wr : World) (b1 b2 : Array Value) : Prop where
  below : Below w.heap.size w wr
  x1 : wr.heap[w.heap.size]? = some (.cells b1 28 (0, 0))
  x2 : wr.heap[w.heap.size + 1]? = some (.cells b2 28 (0, 0))
theorem SsSt.step {w wr w' : World} {b1 b2 : Array Value} (h : SsSt w wr b1 b2) (hb : Below wr.heap.size wr w') : SsSt w w' b1 b2 :=
  ⟨below_then h.below h.below.size hb, blk_below h.x1 hb, blk_below h.x2 hb⟩
theorem SsSt.new (w : World) (b1 b2 : Array Value) : SsSt w ((w.alloc (.cells b1 28)).alloc (.cells b2 28)) b1 b2 := by
  refine ⟨below_alloc (below_alloc (Below.refl _ _) _) _, blk_alloc (heap_alloc_new w _) _, ?_⟩
  have := heap_alloc_new (w.alloc (.cells b1 28)) (.cells b2 28)
  simpa using this
set_option maxRecDepth 100000 in
set_option maxHeartbeats 16000000 in
theorem same_eq (v nx : Int) (ts : List S70) (A B : Option Addr) (c d : Nat) (w : World) (hA : k70.C w A ts.length ts) (hB : k70.C w B ts.length ts) :
    Calls Tryd.prog 45 #[.agg #[.int .i64 v, .slice A ts.length c, .int .i64 nx], .agg #[.int .i64 v, .slice B ts.length d, .int .i64 nx]] w fun e w' => e = .returned (.bool true) ∧ Below w.heap.size w w' := by
  have HA := Aside0.mk hA
  have HB := Aside0.mk hB
  have big := hA.2.1
  have HS := Aside0.mk (SsSt.new w #[.int .i64 v, .slice A ts.length c, .int .i64 nx] #[.int .i64 v, .slice B ts.length d, .int .i64 nx])
  clear hA hB
  go_enter Tryd.func45, Tryd.ntmps45
  go_wp2_with fail
  go_loopg [5] ts.length (fun gg u5 wr => ∃ k : Nat, k ≤ ts.length ∧ ts.length - k ≤ gg ∧ u5 = .int .i64 k ∧ Aside0 (SsSt w wr #[.int .i64 v, .slice A ts.length c, .int .i64 nx] #[.int .i64 v, .slice B ts.length d, .int .i64 nx]))
  case atStart => exact ⟨0, Nat.zero_le _, by omega, rfl, HS⟩
  case round =>
    obtain ⟨k, hk, hg, rfl, HT⟩ := hrel
    clear HS
    have k1 := (pwC HT.out.x1 1).trans (rfl : _ = some (Value.slice A ts.length c))
    have j1 := (pwC HT.out.x2 1).trans (rfl : _ = some (Value.slice B ts.length d))
    by_cases hlt : k < ts.length
    · have hltz : (k : Int) < (ts.length : Int) := by omega
      have hk0 : (0 : Int) ≤ (k : Int) := by omega
      obtain ⟨ad, A2, a2, A3, a3, eA, p0, p1, p2, p3, p4, la2, ga2, la3, ga3⟩ := at_T70 (Kd.C_below HA.out HT.out.below) (k : Int) (by omega) (by omega)
      cases eA
      obtain ⟨bd, B2, b2, B3, b3, eB, q0, q1, q2, q3, q4, lb2, gb2, lb3, gb3⟩ := at_T70 (Kd.C_below HB.out HT.out.below) (k : Int) (by omega) (by omega)
      cases eB
      simp only [Int.toNat_natCast] at p0 p1 p2 p3 p4 q0 q1 q2 q3 q4
      generalize rd_T70 ts (k : Int) = t at p0 p1 p2 p3 p4 q0 q1 q2 q3 q4 la2 ga2 la3 ga3 lb2 gb2 lb3 gb3
      have HC := Lib.hid (fun w' (hb : Below wr.heap.size wr w') => sametab_eq t A2 B2 A3 B3 a2 b2 a3 b3 w' (Kd.C_below ga2 hb) (Kd.C_below gb2 hb) (Kd.C_below ga3 hb) (Kd.C_below gb3 hb))
      clear la2 ga2 la3 ga3 lb2 gb2 lb3 gb3
      go_wp2_with fail
      go_region_law ((go_simp; go_at_call 56; refine (HC.out _ (below_drew (Below.refl _ _))).mono ?_; rintro e w2 ⟨rfl, hb0⟩; have hb2 := below_of_drew' hb0))
      all_goals
        have HT3 := Aside0.mk (HT.out.step hb2)
        clear hb2 p0 p1 p2 p3 p4 q0 q1 q2 q3 q4 k1 j1 HT
        go_wp2
        go_roundg (ts.length - (k + 1))
        case measure => omega
        case rel => exact ⟨k + 1, by omega, by omega, by go_num, HT3⟩
    · have hltz : ¬ (k : Int) < (ts.length : Int) := by omega
      go_wp2
      go_ret
      exact ⟨rfl, HT.out.below⟩
end Go.Proofs.YtjgomlcdmpcoaaaDoor.H
