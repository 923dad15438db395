/- Own texts of this session, packed by its program wip/pp/pack.py: lemmas and walks of functions. -/
import Derived.Deep.RegionLaw
import Derived.Lib.SliceRun
import Derived.Test.YtjgomlcdmpcoaaaDoorKCC17
import Derived.Test.YtjgomlcdmpcoaaaDoorKCC19
import Derived.Test.YtjgomlcdmpcoaaaDoorKCC23
import Derived.Test.YtjgomlcdmpcoaaaDoorKCC26
import Derived.Test.YtjgomlcdmpcoaaaDoorKCC27
namespace Go.Proofs.YtjgomlcdmpcoaaaDoor.H
open Go.RowKit Go.Proofs.YtjgomlcdmpcoaaaDoorW.PrintWords Go.Proofs.YtjgomlcdmpcoaaaDoorW.PrintLast Go.Proofs.YtjgomlcdmpcoaaaDoorW.PrintMore
open Go.Proofs.YtjgomlcdmpcoaaaDoor.D Go.Proofs.YtjgomlcdmpcoaaaDoor
set_option linter.unusedVariables false
set_option linter.unusedSimpArgs false
def beginsM : Array MapEntry := #[ent 6 99 0, ent 8 100 1, ent 7 101 2, ent 9 102 3, ent 10 103 4, ent 11 104 5]
theorem zero138 (w : World) : (zeroValue 138).run Tryd.prog w = .ok .nilFunc w := by kernel_rfl
theorem begins_made (W : World) (r : Nat) (h : W.heap[r]? = some (.map #[] 0)) :
    ∃ W1 W2 W3 W4 W5 W6 : World, (Instr.mapUpdate 139 (.map (some r)) (.int .i64 6) (.func (.func 99) #[] #[])).run Tryd.prog W = .ok () W1 ∧ (Instr.mapUpdate 139 (.map (some r)) (.int .i64 8) (.func (.func 100) #[] #[])).run Tryd.prog W1 = .ok () W2 ∧
      (Instr.mapUpdate 139 (.map (some r)) (.int .i64 7) (.func (.func 101) #[] #[])).run Tryd.prog W2 = .ok () W3 ∧ (Instr.mapUpdate 139 (.map (some r)) (.int .i64 9) (.func (.func 102) #[] #[])).run Tryd.prog W3 = .ok () W4 ∧
      (Instr.mapUpdate 139 (.map (some r)) (.int .i64 10) (.func (.func 103) #[] #[])).run Tryd.prog W4 = .ok () W5 ∧ (Instr.mapUpdate 139 (.map (some r)) (.int .i64 11) (.func (.func 104) #[] #[])).run Tryd.prog W5 = .ok () W6 ∧
      W6.heap[r]? = some (.map beginsM 6) ∧ W.grownBy W6 (some r) := by
  obtain ⟨W1, e1, h1, g1⟩ := run_put 6 (.func (.func 99) #[] #[]) Tryd.underlying139 Tryd.underlying3 h rfl
  obtain ⟨W2, e2, h2, g2⟩ := run_put 8 (.func (.func 100) #[] #[]) Tryd.underlying139 Tryd.underlying3 h1 rfl
  obtain ⟨W3, e3, h3, g3⟩ := run_put 7 (.func (.func 101) #[] #[]) Tryd.underlying139 Tryd.underlying3 h2 rfl
  obtain ⟨W4, e4, h4, g4⟩ := run_put 9 (.func (.func 102) #[] #[]) Tryd.underlying139 Tryd.underlying3 h3 rfl
  obtain ⟨W5, e5, h5, g5⟩ := run_put 10 (.func (.func 103) #[] #[]) Tryd.underlying139 Tryd.underlying3 h4 rfl
  obtain ⟨W6, e6, h6, g6⟩ := run_put 11 (.func (.func 104) #[] #[]) Tryd.underlying139 Tryd.underlying3 h5 rfl
  exact ⟨W1, W2, W3, W4, W5, W6, e1, e2, e3, e4, e5, e6, h6, ((((g1.trans g2).trans g3).trans g4).trans g5).trans g6⟩
def beginner (kind : Int) : Value := if kind = 6 then .func (.func 99) #[] #[] else if kind = 8 then .func (.func 100) #[] #[] else if kind = 7 then .func (.func 101) #[] #[] else if kind = 9 then .func (.func 102) #[] #[] else if kind = 10 then .func (.func 103) #[] #[] else if kind = 11 then .func (.func 104) #[] #[] else .nilFunc
theorem begins_look {W : World} {r : Nat} (h : W.heap[r]? = some (.map beginsM 6)) (kind : Int) : (Instr.lookup 139 (.map (some r)) (.int .i64 kind) false).run Tryd.prog W = .ok (beginner kind) W := by
  by_cases h6 : kind = 6
  · subst h6; exact run_look (i := 0) Tryd.underlying139 Tryd.underlying3 h rfl rfl
  by_cases h8 : kind = 8
  · subst h8; exact run_look (i := 1) Tryd.underlying139 Tryd.underlying3 h rfl rfl
  by_cases h7 : kind = 7
  · subst h7; exact run_look (i := 2) Tryd.underlying139 Tryd.underlying3 h rfl rfl
  by_cases h9 : kind = 9
  · subst h9; exact run_look (i := 3) Tryd.underlying139 Tryd.underlying3 h rfl rfl
  by_cases h10 : kind = 10
  · subst h10; exact run_look (i := 4) Tryd.underlying139 Tryd.underlying3 h rfl rfl
  by_cases h11 : kind = 11
  · subst h11; exact run_look (i := 5) Tryd.underlying139 Tryd.underlying3 h rfl rfl
  have hf : beginner kind = .nilFunc := by unfold beginner; rw [if_neg h6, if_neg h8, if_neg h7, if_neg h9, if_neg h10, if_neg h11]
  rw [hf]
  refine run_miss Tryd.underlying139 Tryd.underlying3 h rfl ?_ (zero138 W)
  have b6 : (kind == 6) = false := by simpa using h6
  have b7 : (kind == 7) = false := by simpa using h7
  have b8 : (kind == 8) = false := by simpa using h8
  have b9 : (kind == 9) = false := by simpa using h9
  have b10 : (kind == 10) = false := by simpa using h10
  have b11 : (kind == 11) = false := by simpa using h11
  simp [beginsM, ent, Instr.findNow, Instr.sameNow, b6, b7, b8, b9, b10, b11]
theorem nxtE_neB {v : Int} {ts : List S70} {nx : Int} (h : nxtE v ts nx ≠ 0) (f : S70 → S45 → S70 × Int × Int) (s : S45) : beginP f v ts nx s = noTold (nxtE v ts nx) := by
  unfold nxtE at h ⊢
  unfold beginP
  by_cases h1 : schB v ts nx = false
  · rw [if_pos h1, if_pos h1]
  · rw [if_neg h1] at h ⊢
    rw [if_neg h1]
    by_cases h2 : 1099511627775 ≤ v
    · rw [if_pos h2, if_pos h2]
    · rw [if_neg h2] at h
      exact absurd rfl h
theorem nxtE_eqB {v : Int} {ts : List S70} {nx : Int} (h : nxtE v ts nx = 0) : schB v ts nx = true ∧ ¬ 1099511627775 ≤ v := by
  unfold nxtE at h
  by_cases h1 : schB v ts nx = false
  · rw [if_pos h1] at h; cases h
  · rw [if_neg h1] at h
    refine ⟨by simpa using h1, fun h2 => ?_⟩
    rw [if_pos h2] at h
    cases h
theorem nxtE_okB {v : Int} {ts : List S70} {nx : Int} (h : nxtE v ts nx = 0) (f : S70 → S45 → S70 × Int × Int) (s : S45) : beginP f v ts nx s = if s.f0 < 6 ∨ 11 < s.f0 then noTold 1
  else if idxL (tName s.f1) ts 0 < 0 then noTold 5
  else if (f (rd_T70 ts (idxL (tName s.f1) ts 0)) s).2.2 ≠ 0 then noTold (f (rd_T70 ts (idxL (tName s.f1) ts 0)) s).2.2
  else ⟨v + 1, ts.set (idxL (tName s.f1) ts 0).toNat (f (rd_T70 ts (idxL (tName s.f1) ts 0)) s).1, nx, (f (rd_T70 ts (idxL (tName s.f1) ts 0)) s).1.f0, (f (rd_T70 ts (idxL (tName s.f1) ts 0)) s).2.1, 0⟩ := by
  obtain ⟨h1, h2⟩ := nxtE_eqB h
  unfold beginP
  rw [if_neg (by rw [h1]; simp), if_neg h2]
theorem eql_nil138 (w : World) : (binOp BinOp.eql 138 Value.nilFunc Value.nilFunc).run Tryd.prog w = .ok (.bool true) w := by kernel_rfl
set_option maxRecDepth 100000 in
set_option maxHeartbeats 8000000 in
theorem beginG_of (F : Nat) (f : S70 → S45 → S70 × Int × Int) (v : Int) (ts : List S70) (nx : Int) (s : S45)
    (hF : (beginner s.f0 = .nilFunc ∧ (s.f0 < 6 ∨ 11 < s.f0)) ∨ (beginner s.f0 = .func (.func F) #[] #[] ∧ UpdK F s.f0 f ∧ ¬ (s.f0 < 6 ∨ 11 < s.f0) ∧ (∀ args w, (callFunc F args).run Tryd.prog w = .ok (.enter F args) w) ∧ ∀ w, (binOp BinOp.eql 138 (Value.func (Fn.func F) #[] #[]) Value.nilFunc).run Tryd.prog w = .ok (.bool false) w))
    (hwf : ∀ t ∈ ts, TabWf t) (hv64 : -9223372036854775808 ≤ v ∧ v < 9223372036854775808) (A : Option Addr) (c : Nat) (w : World) (hG : GL w) (hc : ts.length ≤ c) (hC : k70.C w A ts.length ts) (cs : List Value) (hs : k45.K w s cs) (hok : StmtOk s) :
    Calls Tryd.prog 51 #[.agg #[.int .i64 v, .slice A ts.length c, .int .i64 nx], .agg cs.toArray] w (Tells w (beginP f v ts nx s)) := by
  obtain ⟨A3, c3, A4, c4, A5, c5, A6, c6, A9, c9, rfl, -⟩ := k45_open hs
  obtain ⟨w0, hw0⟩ : ∃ w0, w0 = ((w.alloc (.cells #[.int .i64 v, .slice A ts.length c, .int .i64 nx] 28)).alloc (.cells #[.int .i64 s.f0, .string s.f1, .string s.f2, .slice A3 s.f3.length c3, .slice A4 s.f4.length c4, .slice A5 s.f5.length c5, .slice A6 s.f6.length c6, .bool s.f7, .int .i64 s.f8, .slice A9 s.f9.length c9] 45)).alloc (.cells #[.int .i64 0, .slice none 0 0, .int .i64 0] 28) := ⟨_, rfl⟩
  have hX0 : Bxs w w0 #[.int .i64 v, .slice A ts.length c, .int .i64 nx] #[.int .i64 s.f0, .string s.f1, .string s.f2, .slice A3 s.f3.length c3, .slice A4 s.f4.length c4, .slice A5 s.f5.length c5, .slice A6 s.f6.length c6, .bool s.f7, .int .i64 s.f8, .slice A9 s.f9.length c9] := by rw [hw0]; exact Bxs.new w _ _
  have HM := Lib.hid (cnext_calls v ts nx hwf hv64 A c w0 (hG.of_below hX0.below) hc (Kd.C_below hC hX0.below))
  have HSK := Aside0.mk hs
  have HGL := Lib.hid hG
  have HOK := Lib.hid hok
  have hx0 := blk_cell (j := 0) (v := .int .i64 v) hX0.b0 rfl
  have hx1 := blk_cell (j := 1) (v := .slice A ts.length c) hX0.b0 rfl
  have hx2 := blk_cell (j := 2) (v := .int .i64 nx) hX0.b0 rfl
  have HX0 := Aside0.mk hX0
  have HW0 := Lib.hid hw0
  rw [hw0] at HM hx0 hx1 hx2
  obtain ⟨R, hR⟩ : ∃ R, beginP f v ts nx s = R := ⟨_, rfl⟩
  rw [hR]
  clear hX0 hC hG hwf hw0 hs hok
  by_cases hn : nxtE v ts nx = 0
  rotate_left
  · have HR := Lib.hid (show R = noTold (nxtE v ts nx) by rw [← hR, nxtE_neB hn])
    obtain ⟨er, her⟩ : ∃ er, nxtE v ts nx = er := ⟨_, rfl⟩
    rw [her] at HR hn
    have hq : (er != 0) = true := by simpa using hn
    have HER := Lib.hid her
    clear hR her hF
    go_enter Tryd.func51, Tryd.ntmps51
    go_wp2_with fail
    refine HM.out.mono ?_
    rw [← HW0.out]
    rintro e w1 ⟨hb1, ⟨-, rfl⟩ | ⟨h, -⟩⟩
    rotate_left
    · exact absurd (HER.out.symm.trans h) hn
    rw [HER.out]
    have HX1 := Aside0.mk ((HX0.out.step hb1).step (below_alloc (Below.refl _ w1) (.cells #[.int .i64 0, .slice none 0 0, .int .i64 0] 28)))
    have f0 := blk_frozen (HX0.out.step hb1).b2 0
    have f1 := blk_frozen (HX0.out.step hb1).b2 1
    have f2 := blk_frozen (HX0.out.step hb1).b2 2
    have c0 := blk_cell (j := 0) (v := .int .i64 0) (HX0.out.step hb1).b2 rfl
    have c1 := blk_cell (j := 1) (v := .slice none 0 0) (HX0.out.step hb1).b2 rfl
    have c2 := blk_cell (j := 2) (v := .int .i64 0) (HX0.out.step hb1).b2 rfl
    have hx3 := lt_of_block (HX0.out.step hb1).b2
    have hz := blk_alloc (blk_put (blk_put (blk_put (HX0.out.step hb1).b2 0 (.int .i64 0) rfl) 1 (.slice none 0 0) rfl) 2 (.int .i64 0) rfl) (.cells #[.int .i64 0, .slice none 0 0, .int .i64 0] 28)
    have hbz := below_alloc ((HX0.out.step hb1).out (.int .i64 0) (.slice none 0 0) (.int .i64 0)) (.cells #[.int .i64 0, .slice none 0 0, .int .i64 0] 28)
    have HBZ := Aside0.mk (And.intro hz hbz)
    clear hb1 hx0 hx1 hx2 hz hbz
    go_wp2
    refine bodyPost_ret (v := .tuple #[.agg #[.int .i64 0, .slice none 0 0, .int .i64 0], .int .i64 0, .int .i64 0, .int .i64 er]) (by have r0 := blk_cell (j := 0) (v := .int .i64 0) HBZ.out.1 rfl; have r1 := blk_cell (j := 1) (v := .slice none 0 0) HBZ.out.1 rfl; have r2 := blk_cell (j := 2) (v := .int .i64 0) HBZ.out.1 rfl; simp [results, Tryd.results51, go_sem, r0, r1, r2]) rfl (tells_no HR.out HBZ.out.2)
  have HN := Lib.hid hn
  have HI := Lib.hid (hR.symm.trans (nxtE_okB hn f s))
  have HSC := Lib.hid (nxtE_eqB hn).1
  obtain ⟨bg, hbg⟩ : ∃ bg, beginner s.f0 = bg := ⟨_, rfl⟩
  have HBG := Lib.hid hbg
  rw [hbg] at hF
  have hmm := @run_makeMap Tryd.prog
  have hmf : ∀ (fn : Fn) (first cap : Array Value) (w : World), (Instr.makeFunc fn first cap).run Tryd.prog w = .ok (.func fn first cap) w := fun _ _ _ _ => rfl
  have HFF := Lib.hid hF
  clear hR hn hF hbg
  go_enter Tryd.func51, Tryd.ntmps51
  go_wp2_with fail
  refine HM.out.mono ?_
  rw [← HW0.out]
  rintro e w1 ⟨hb1, ⟨h, -⟩ | ⟨-, u, rfl, hS⟩⟩
  · exact absurd HN.out h
  have hS' := Kd.S_lower hS HX0.out.below.size
  obtain ⟨Au, cu, rfl⟩ := Kd.S_slice hS'
  have hX1 := HX0.out.step hb1
  have HN2 := lt_of_block hX1.b2
  have hX2 := hX1.step (below_alloc (Below.refl _ w1) (.cells #[.int .i64 (v + 1), .slice Au ts.length cu, .int .i64 nx] 28))
  have hX3 := hX2.step (below_alloc (Below.refl _ _) (.map #[] 0))
  have hZ := heap_alloc_new w1 (.cells #[.int .i64 (v + 1), .slice Au ts.length cu, .int .i64 nx] 28)
  obtain ⟨W0, hW0⟩ : ∃ W0, W0 = (w1.alloc (.cells #[.int .i64 (v + 1), .slice Au ts.length cu, .int .i64 nx] 28)).alloc (.map #[] 0) := ⟨_, rfl⟩
  have hm0 : W0.heap[w1.heap.size + 1]? = some (.map #[] 0) := by
    have := heap_alloc_new (w1.alloc (.cells #[.int .i64 (v + 1), .slice Au ts.length cu, .int .i64 nx] 28)) (.map #[] 0)
    rw [hW0]
    simpa using this
  have hZ0 : W0.heap[w1.heap.size]? = some (.cells #[.int .i64 (v + 1), .slice Au ts.length cu, .int .i64 nx] 28 (0, 0)) := by rw [hW0]; exact blk_alloc hZ _
  obtain ⟨W1, W2, W3, W4, W5, W6, i1, i2, i3, i4, i5, i6, hm6, hg6⟩ := begins_made W0 (w1.heap.size + 1) hm0
  rw [← hW0] at hX3
  have hbB : Below w1.heap.size w1 W6 := (show Below w1.heap.size w1 W0 by rw [hW0]; exact below_alloc (below_alloc (Below.refl _ _) _) _).grown hg6 (by rw [hW0]; simp; omega) (fun k hk => by injection hk with hk; omega)
  have hX6 := hX1.step hbB
  have hZ6 : W6.heap[w1.heap.size]? = some (.cells #[.int .i64 (v + 1), .slice Au ts.length cu, .int .i64 nx] 28 (0, 0)) := (hg6.block _ (blk_lt hZ0) (fun e => by injection e with e; omega)).trans hZ0
  have hS6 := Kd.S_below hS' hbB
  have hlook := begins_look hm6 s.f0
  rw [HBG.out] at hlook
  have hx6 := blk_cell (j := 1) (v := .slice Au ts.length cu) hZ6 rfl
  have hs6 := blk_cell (j := 0) (v := .int .i64 s.f0) hX6.b1 rfl
  have HQ := Lib.hid (idx70 106 #[.pointer (some ⟨w.heap.size + 1, 0, none⟩)] enters106 (fun x => x.f1.toList == s.f1.toList) Au cu ts W6 (Kd.S_reads' hS6).2.2 (pred106 s.f1 (w.heap.size + 1) W6 (lt_of_block hX6.b1) (blk_cell hX6.b1 rfl)))
  rw [tName_same] at HQ
  obtain ⟨ix, hix⟩ : ∃ ix, idxL (tName s.f1) ts 0 = ix := ⟨_, rfl⟩
  have hia := idxL_at (tName s.f1) ts
  have hHI := HI.out
  rw [hix] at HQ hia hHI
  have HI2 := Lib.hid hHI
  have HX6 := Aside0.mk hX6
  have HZ6 := Aside0.mk hZ6
  have HS6 := Aside0.mk hS6
  rw [hW0] at i1
  clear hb1 hS hS' hX1 hX2 hX3 hZ hm0 hZ0 hm6 hg6 hbB hX6 hZ6 hS6 hix hHI HI hW0 hx0 hx1 hx2
  go_wp2_with fail
  refine HQ.out.mono ?_
  rintro e w7 ⟨rfl, hb7⟩
  have HX7 := Aside0.mk (HX6.out.step hb7)
  have HZ7 := Aside0.mk (blk_below HZ6.out hb7)
  have HS7 := Aside0.mk (Kd.S_below HS6.out hb7)
  have f0 := blk_frozen HX7.out.b2 0
  have f1 := blk_frozen HX7.out.b2 1
  have f2 := blk_frozen HX7.out.b2 2
  have c0 := blk_cell (j := 0) (v := .int .i64 0) HX7.out.b2 rfl
  have c1 := blk_cell (j := 1) (v := .slice none 0 0) HX7.out.b2 rfl
  have c2 := blk_cell (j := 2) (v := .int .i64 0) HX7.out.b2 rfl
  clear hb7 i1 i2 i3 i4 i5 i6 hlook HX6 HZ6 HS6 HQ hmm hmf hx6 hs6
  rcases HFF.out with ⟨rfl, hkind⟩ | ⟨rfl, hU, hkind, hen, heq⟩
  · have HR := Lib.hid (show R = noTold 1 by rw [HI2.out, if_pos hkind])
    have hnil := eql_nil138
    clear HFF hkind HI2
    go_wp2
    refine bodyPost_ret (v := .tuple #[.agg #[.int .i64 0, .slice none 0 0, .int .i64 0], .int .i64 0, .int .i64 0, .int .i64 1]) (by simp [results, Tryd.results51, go_sem, c0, c1, c2]) rfl (tells_no HR.out (HX7.out.out _ _ _))
  have HI3 := Lib.hid (HI2.out.trans (if_neg hkind))
  have HU := Lib.hid hU
  have HE := Lib.hid hen
  clear HFF hkind HI2 hU hen
  rcases hia with rfl | ⟨k, hk, rfl, -⟩
  · have HR := Lib.hid (show R = noTold 5 by rw [HI3.out]; rfl)
    clear HI3
    go_wp2
    refine bodyPost_ret (v := .tuple #[.agg #[.int .i64 0, .slice none 0 0, .int .i64 0], .int .i64 0, .int .i64 0, .int .i64 5]) (by simp [results, Tryd.results51, go_sem, c0, c1, c2]) rfl (tells_no HR.out (HX7.out.out _ _ _))
  have HI5 := Lib.hid (HI3.out.trans (if_neg (by omega)))
  have hk0 : (0 : Int) ≤ (k : Int) := by omega
  have hkl : (k : Int) < (ts.length : Int) := by omega
  obtain ⟨g, cap, hgv, -⟩ := Kd.S_form HS7.out (by omega)
  obtain ⟨rfl, rfl⟩ : Au = some ⟨g, 0, none⟩ ∧ cu = cap := by injection hgv with h1 _ h2; exact ⟨h1, h2⟩
  have y1 := blk_cell (j := 1) (v := .slice (some ⟨g, 0, none⟩) ts.length cu) HZ7.out rfl
  have s0 := blk_cell (j := 0) (v := .int .i64 s.f0) HX7.out.b1 rfl
  have s1 := blk_cell (j := 1) (v := .string s.f1) HX7.out.b1 rfl
  have s2 := blk_cell (j := 2) (v := .string s.f2) HX7.out.b1 rfl
  have s3 := blk_cell (j := 3) (v := .slice A3 s.f3.length c3) HX7.out.b1 rfl
  have s4 := blk_cell (j := 4) (v := .slice A4 s.f4.length c4) HX7.out.b1 rfl
  have s5 := blk_cell (j := 5) (v := .slice A5 s.f5.length c5) HX7.out.b1 rfl
  have s6 := blk_cell (j := 6) (v := .slice A6 s.f6.length c6) HX7.out.b1 rfl
  have s7 := blk_cell (j := 7) (v := .bool s.f7) HX7.out.b1 rfl
  have s8 := blk_cell (j := 8) (v := .int .i64 s.f8) HX7.out.b1 rfl
  have s9 := blk_cell (j := 9) (v := .slice A9 s.f9.length c9) HX7.out.b1 rfl
  obtain ⟨oki, cv, iv, hL⟩ := lend (Kd.S_drew HS7.out) hk
  have HTB := Lib.hid (schB_tab HSC.out _ (List.getElem_mem hk))
  have HUU := Lib.hid (HU.out w w7.drew g ts.length cu ts k oki ts[k] cv iv s _ HGL.out (below_drew HX7.out.below) hL HTB.out HSK.out HOK.out rfl)
  obtain ⟨t', id, er, hf⟩ : ∃ t' id er, f ts[k] s = (t', id, er) := ⟨_, _, _, rfl⟩
  have HI6 := HI5.out
  rw [rd70 _ _ hk, hf, Int.toNat_natCast] at HI6
  rw [hf] at HUU
  have HI7 := Lib.hid HI6
  clear hgv hL hf HI5 HI6 HI3 HU
  go_wp2_with fail
  clear f0 f1 f2 c0 c1 c2
  go_region_law ((go_simp; rw [HE.out, Oper.upon_enter]; refine HUU.out.mono ?_; rintro e w8 ⟨rfl, hS8, hT8⟩))
  all_goals
    have hTT : Tch w.heap.size w7 w8 := (Tch.of_below (below_drew (Below.refl _ w7)) HX7.out.below.size).trans hT8
    have HX8 := Aside0.mk (HX7.out.tch hTT)
    have HZ8 := Aside0.mk (hTT.box HZ7.out)
    have HS8 := Aside0.mk hS8
    have f0 := blk_frozen HX8.out.b2 0
    have f1 := blk_frozen HX8.out.b2 1
    have f2 := blk_frozen HX8.out.b2 2
    have c0 := blk_cell (j := 0) (v := .int .i64 0) HX8.out.b2 rfl
    have c1 := blk_cell (j := 1) (v := .slice none 0 0) HX8.out.b2 rfl
    have c2 := blk_cell (j := 2) (v := .int .i64 0) HX8.out.b2 rfl
    clear s0 s1 s2 s3 s4 s5 s6 s7 s8 s9 hS8 hT8 hTT HUU y1
    by_cases her : er = 0
    · subst her
      have HR := Lib.hid (HI7.out.trans (if_neg (by simp)))
      have y0 := blk_cell (j := 0) (v := .int .i64 (v + 1)) HZ8.out rfl
      have y1 := blk_cell (j := 1) (v := .slice (some ⟨g, 0, none⟩) ts.length cu) HZ8.out rfl
      have y2 := blk_cell (j := 2) (v := .int .i64 nx) HZ8.out rfl
      obtain ⟨oki6, cv6, iv6, hL6⟩ := lend HS8.out (by rw [List.length_set]; exact hk)
      rw [List.getElem_set_self] at hL6
      have t0 : w8.cell? ⟨g, k * 5, none⟩ = some (.int .i64 t'.f0) := hL6.cell 0 rfl
      obtain ⟨gcs, hgb⟩ := hL6.blk
      have n1 : ¬ g = w.heap.size + 1 + 1 := blk_ne hgb HX8.out.b2 (by decide)
      have n2 : ¬ w1.heap.size = w.heap.size + 1 + 1 := by omega
      clear hL6 hgb HI7
      go_wp2_with fail
      go_region
      all_goals
        go_wp2
        refine bodyPost_ret (v := .tuple #[.agg #[.int .i64 (v + 1), .slice (some ⟨g, 0, none⟩) ts.length cu, .int .i64 nx], .int .i64 t'.f0, .int .i64 id, .int .i64 0]) (by simp [results, Tryd.results51, go_sem, c0, c1, c2]) rfl ?_
        have hfin := tells_ok (w := w) (R := R) (v := v + 1) (nx := nx) (table := t'.f0) (elem := id) (ts := ts.set k t') (cap := cu) (g := g) (by rw [HR.out]) (Kd.S_drew (S_set3 (by rw [List.length_set]; exact HS8.out) HX8.out.b2)) (below_drew (HX8.out.out (.int .i64 (v + 1)) (.slice (some ⟨g, 0, none⟩) (ts.set k t').length cu) (.int .i64 nx)))
        rw [List.length_set] at hfin
        exact hfin
    · have hd : (er != 0) = true := by simpa using her
      have HR := Lib.hid (show R = noTold er by rw [HI7.out]; exact if_pos her)
      clear HI7 her
      go_wp2
      refine bodyPost_ret (v := .tuple #[.agg #[.int .i64 0, .slice none 0 0, .int .i64 0], .int .i64 0, .int .i64 0, .int .i64 er]) (by simp [results, Tryd.results51, go_sem, c0, c1, c2]) rfl (tells_no HR.out (HX8.out.out _ _ _))
def stepF (kind : Int) : S70 → S45 → S70 × Int × Int := if kind = 6 then addIndexP else if kind = 8 then addColP else dropP
theorem enters99 (args : Array Value) (w : World) : (callFunc 99 args).run Tryd.prog w = .ok (.enter 99 args) w := enters Tryd.func99 (by kernel_rfl) rfl args w
theorem eql_f99 (w : World) : (binOp BinOp.eql 138 (Value.func (Fn.func 99) #[] #[]) Value.nilFunc).run Tryd.prog w = .ok (.bool false) w := by kernel_rfl
theorem enters100 (args : Array Value) (w : World) : (callFunc 100 args).run Tryd.prog w = .ok (.enter 100 args) w := enters Tryd.func100 (by kernel_rfl) rfl args w
theorem eql_f100 (w : World) : (binOp BinOp.eql 138 (Value.func (Fn.func 100) #[] #[]) Value.nilFunc).run Tryd.prog w = .ok (.bool false) w := by kernel_rfl
theorem enters101 (args : Array Value) (w : World) : (callFunc 101 args).run Tryd.prog w = .ok (.enter 101 args) w := enters Tryd.func101 (by kernel_rfl) rfl args w
theorem eql_f101 (w : World) : (binOp BinOp.eql 138 (Value.func (Fn.func 101) #[] #[]) Value.nilFunc).run Tryd.prog w = .ok (.bool false) w := by kernel_rfl
theorem enters102 (args : Array Value) (w : World) : (callFunc 102 args).run Tryd.prog w = .ok (.enter 102 args) w := enters Tryd.func102 (by kernel_rfl) rfl args w
theorem eql_f102 (w : World) : (binOp BinOp.eql 138 (Value.func (Fn.func 102) #[] #[]) Value.nilFunc).run Tryd.prog w = .ok (.bool false) w := by kernel_rfl
theorem enters103 (args : Array Value) (w : World) : (callFunc 103 args).run Tryd.prog w = .ok (.enter 103 args) w := enters Tryd.func103 (by kernel_rfl) rfl args w
theorem eql_f103 (w : World) : (binOp BinOp.eql 138 (Value.func (Fn.func 103) #[] #[]) Value.nilFunc).run Tryd.prog w = .ok (.bool false) w := by kernel_rfl
theorem enters104 (args : Array Value) (w : World) : (callFunc 104 args).run Tryd.prog w = .ok (.enter 104 args) w := enters Tryd.func104 (by kernel_rfl) rfl args w
theorem eql_f104 (w : World) : (binOp BinOp.eql 138 (Value.func (Fn.func 104) #[] #[]) Value.nilFunc).run Tryd.prog w = .ok (.bool false) w := by kernel_rfl
theorem beginG_calls (v : Int) (ts : List S70) (nx : Int) (s : S45) (hwf : ∀ t ∈ ts, TabWf t) (hv64 : -9223372036854775808 ≤ v ∧ v < 9223372036854775808) (A : Option Addr) (c : Nat) (w : World) (hG : GL w) (hc : ts.length ≤ c) (hC : k70.C w A ts.length ts) (cs : List Value) (hs : k45.K w s cs) (hok : StmtOk s) :
    Calls Tryd.prog 51 #[.agg #[.int .i64 v, .slice A ts.length c, .int .i64 nx], .agg cs.toArray] w (Tells w (beginP (stepF s.f0) v ts nx s)) := by
  by_cases h6 : s.f0 = 6
  · exact beginG_of 99 _ v ts nx s (.inr ⟨by rw [h6]; rfl, by rw [h6]; exact addIndexG_upd, by omega, enters99, eql_f99⟩) hwf hv64 A c w hG hc hC cs hs hok
  by_cases h8 : s.f0 = 8
  · exact beginG_of 100 _ v ts nx s (.inr ⟨by rw [h8]; rfl, by rw [h8]; exact addColumnG_upd, by omega, enters100, eql_f100⟩) hwf hv64 A c w hG hc hC cs hs hok
  have hsf : stepF s.f0 = dropP := by unfold stepF; rw [if_neg h6, if_neg h8]
  rw [hsf]
  by_cases h7 : s.f0 = 7
  · exact beginG_of 101 _ v ts nx s (.inr ⟨by rw [h7]; rfl, by rw [h7]; exact dropIndexG_upd, by omega, enters101, eql_f101⟩) hwf hv64 A c w hG hc hC cs hs hok
  by_cases h9 : s.f0 = 9
  · exact beginG_of 102 _ v ts nx s (.inr ⟨by rw [h9]; rfl, by rw [h9]; exact dropColumnG_upd, by omega, enters102, eql_f102⟩) hwf hv64 A c w hG hc hC cs hs hok
  by_cases h10 : s.f0 = 10
  · exact beginG_of 103 _ v ts nx s (.inr ⟨by rw [h10]; rfl, by rw [h10]; exact setNullG_upd, by omega, enters103, eql_f103⟩) hwf hv64 A c w hG hc hC cs hs hok
  by_cases h11 : s.f0 = 11
  · exact beginG_of 104 _ v ts nx s (.inr ⟨by rw [h11]; rfl, by rw [h11]; exact dropNullG_upd, by omega, enters104, eql_f104⟩) hwf hv64 A c w hG hc hC cs hs hok
  exact beginG_of 0 _ v ts nx s (.inl ⟨by unfold beginner; rw [if_neg h6, if_neg h8, if_neg h7, if_neg h9, if_neg h10, if_neg h11], by omega⟩) hwf hv64 A c w hG hc hC cs hs hok
end Go.Proofs.YtjgomlcdmpcoaaaDoor.H
namespace Go.Proofs.YtjgomlcdmpcoaaaDoor.H
open Go.RowKit Go.Proofs.YtjgomlcdmpcoaaaDoorW.PrintWords Go.Proofs.YtjgomlcdmpcoaaaDoorW.PrintLast Go.Proofs.YtjgomlcdmpcoaaaDoorW.PrintMore
open Go.Proofs.YtjgomlcdmpcoaaaDoor.D Go.Proofs.YtjgomlcdmpcoaaaDoor
set_option linter.unusedVariables false
set_option linter.unusedSimpArgs false
section
variable {α : Type} {d : Kd α} {e : TypeId} {W : World} {base g m c : Nat} {ok : Nat → Prop} {xs : List α}
theorem R_tail1 (h : d.R e W base ok (.slice (some ⟨g, 0, none⟩) m c) xs) (o : Nat) (ho : m * d.sz ≤ o) (u : Value) : d.R e (W.setCell ⟨g, o, none⟩ u) base ok (.slice (some ⟨g, 0, none⟩) m c) xs := by
  have hm := (Kd.R_reads' h).1
  obtain ⟨h0, inner, hown, hr⟩ := h
  refine ⟨h0, inner, ?_, hr.1, fun j p hj => ?_⟩
  · obtain ⟨hl, hq⟩ := hown
    refine ⟨hl, ?_⟩
    rcases hq with ⟨hq, _⟩ | ⟨g', cap, cur, hv, hb, hh, h1, h2, h3, h4⟩
    · cases hq
    · injection hv with ha hb' hc'
      injection ha with ha
      injection ha with ha
      subst ha
      refine .inr ⟨g, cap, cur.setIfInBounds o u, by rw [hc', hb'], hb, blk_put hh o u rfl, h1, h2, by simpa using h3, ?_⟩
      rw [← h4]
      rw [Array.toList_setIfInBounds, List.take_set_of_le (by rw [← hm]; exact ho)]
  · exact Kd.M_far (hr.2 j p hj) (p := ⟨g, o, none⟩) (fun k hk e => hk.2 (by rw [e]; simp [Value.ownBlock])) u
theorem R_tails : ∀ (vs : List Value) (o : Nat) (W : World), d.R e W base ok (.slice (some ⟨g, 0, none⟩) m c) xs → m * d.sz ≤ o → d.R e (W.setCells g o vs) base ok (.slice (some ⟨g, 0, none⟩) m c) xs
  | [], _, _, h, _ => h
  | v :: r, o, W, h, ho => R_tails r (o + 1) _ (R_tail1 h o ho v) (by omega)
theorem keep_sets : ∀ (vs : List Value) (o : Nat) (W : World), (∀ k, k < W.heap.size → k ≠ g → (W.setCells g o vs).heap[k]? = W.heap[k]?) ∧ Below g W (W.setCells g o vs) ∧ W.heap.size = (W.setCells g o vs).heap.size
  | [], _, _ => ⟨fun _ _ _ => rfl, Below.refl _ _, rfl⟩
  | v :: r, o, W => by
    have h1 := keep_sets r (o + 1) (W.setCell ⟨g, o, none⟩ v)
    have h2 : (W.setCell ⟨g, o, none⟩ v).heap.size = W.heap.size := by simp [World.setCell]
    refine ⟨fun k hk hne => (h1.1 k (by omega) hne).trans (Below.heap_setCell W ⟨g, o, none⟩ v k hne), ((Below.refl _ _).setCell (p := ⟨g, o, none⟩) (Nat.le_refl _) v).trans h1.2.1, ?_⟩
    rw [← h2]
    exact h1.2.2
end
theorem clear_one {P : Program} (w : World) (t e ty : TypeId) (z : Value) (ht : P.underlying t = some (.slice e)) (hv : ∀ w, (zeroValue e).run P w = .ok z w) (b o c : Nat)
    (hc : ∀ j, j < z.cells.size → (w.cell? ⟨b, o + j, none⟩).isSome = true) (hf : ∀ j, j < z.cells.size → w.frozen? ⟨b, o + j, none⟩ = false) (h1 : ∀ v ∈ z.cells.toList, v.oneCell' = true) (n : Nat) (hn : n = 1) :
    (Builtin.clear_ #[t] ty #[.slice (some ⟨b, o, none⟩) n c]).run P w = .ok (.tuple #[]) (w.setCells b o z.cells.toList) := by
  subst hn
  have hzc : (Builtin.zeroCells z.cells 1).toList = z.cells.toList := by
    simp [Builtin.zeroCells]
    apply List.ext_getElem
    · simp
    · intro i h1 h2
      simp at h1 h2
      simp [Nat.mod_eq_of_lt h2, getElem!_pos z.cells i h2]
  have hst := run_storeCells_cells (P := P) b o z.cells.toList 0 w (by simpa using hc) (by simpa using hf) h1
  simp only [Nat.add_zero] at hst
  simp [Builtin.clear_, run_underlying ht, hv, hzc, hst]
theorem zeroV98 (w : World) : (zeroValue 98).run Tryd.prog w = .ok (.agg #[.int .i64 0, .string ⟨#[]⟩, .slice none 0 0, .bool false, .int .i64 0]) w := by kernel_rfl
theorem zeroV75 (w : World) : (zeroValue 75).run Tryd.prog w = .ok (.agg #[.int .i64 0, .string ⟨#[]⟩, .int .i64 0, .int .i64 0, .int .i64 0, .int .i64 0, .int .i64 0, .int .u64 0, .string ⟨#[]⟩]) w := by kernel_rfl
theorem R_block {α : Type} {d : Kd α} {e : TypeId} {W : World} {base g m c : Nat} {ok : Nat → Prop} {xs : List α} (h : d.R e W base ok (.slice (some ⟨g, 0, none⟩) m c) xs) : ∃ cur, W.heap[g]? = some (.cells cur e (0, 0)) ∧ cur.size = c * d.sz := by
  obtain ⟨h0, inner, hown, hr⟩ := h
  rcases hown.2 with ⟨hq, _⟩ | ⟨g', cap, cur, hv, hb, hh, h1, h2, h3, h4⟩
  · cases hq
  · injection hv with ha hb' hc'
    injection ha with ha
    injection ha with ha
    subst ha
    subst hc'
    exact ⟨cur, hh, h3⟩
theorem blk_some {W : World} {g j : Nat} {cs : Array Value} {t : TypeId} (h : W.heap[g]? = some (.cells cs t (0, 0))) (hj : j < cs.size) : (W.cell? ⟨g, j, none⟩).isSome = true := by
  rw [blk_cell h (Array.getElem?_eq_getElem hj)]
  rfl
theorem step_del {P : Program} {ops : Array Oper} {o : Oper} {a : Act} {W : World} {K : Act → World → Prop} {Q : Exit → Act → World → Prop} {E : Prop} {α : Type} (d : Kd α) (base : Nat) (hgd : o.guard = none) (s x : Operand) (t e : TypeId) (ho : o.op = .call { callee := .builtin .append, args := #[s, x], argTypes := #[t, t] })
    (ht : P.underlying t = some (.slice e)) (hinfo : (P.info? e).map (·.size) = some d.sz) {g n c k m c2 : Nat} {A : Option Addr} {xs : List α} {ok : Nat → Prop}
    (hs : a.eval s = .slice (some ⟨g, 0, none⟩) k c) (hx : a.eval x = .slice A m c2) (hA : A = if c = k + 1 then some ⟨g, 0, none⟩ else (some (⟨g, 0, none⟩ : Addr)).map (·.add ((k + 1) * d.sz))) (hm : m = n - (k + 1))
    (HO : d.R e W base ok (.slice (some ⟨g, 0, none⟩) n c) xs) (hk : k < n)
    (h : ∀ w1, d.R e w1 base ok (.slice (some ⟨g, 0, none⟩) (n - 1) c) (xs.eraseIdx k) → W.grownBy w1 (some g) → K (a.put o.dst (.slice (some ⟨g, 0, none⟩) (n - 1) c)) w1) :
    if Region.wanted o (yielded ops a.tmps) = true then Oper.wp P o a W K Q else E := by
  obtain ⟨i0, hi, hsz⟩ := Option.map_eq_some_iff.1 hinfo
  subst hm
  obtain ⟨w1, hr, h1, h2⟩ := Kd.R_delete_run (P := P) d base t o.type e i0 ht hi hsz HO hk hA c2
  rw [if_pos (by unfold Region.wanted; rw [hgd])]
  unfold Oper.wp execOp
  simp only [ho, resolve, invoke, builtin, Sem.run_bind, Sem.run_pure, Result.andThen_ok, List.map_toArray, List.map_cons, List.map_nil, hs, hx, hr]
  exact h w1 h1 h2
set_option maxRecDepth 100000 in
set_option maxHeartbeats 4000000 in
theorem del150 (xs : List S98) (g c k : Nat) (W : World) (B : Nat) (ok : Nat → Prop) (hR : k98.R 98 W B ok (.slice (some ⟨g, 0, none⟩) xs.length c) xs) (hk : k < xs.length) (hx : xs.length ≤ 1000) :
    Calls Tryd.prog 150 #[.slice (some ⟨g, 0, none⟩) xs.length c, .int .i64 (k : Int), .int .i64 ((k : Int) + 1)] W fun e W' => e = .returned (.slice (some ⟨g, 0, none⟩) (xs.length - 1) c) ∧ k98.R 98 W' B ok (.slice (some ⟨g, 0, none⟩) (xs.length - 1) c) (xs.eraseIdx k) ∧ W.grownBy W' (some g) := by
  have hlc := (Kd.R_reads' hR).2.1
  have HR := Aside0.mk hR
  have HRd := Aside0.mk (Kd.R_below hR (below_drew (Below.refl _ W)))
  obtain ⟨i0, hi0, _, hsz, _⟩ := info_parts info98
  have hcut1 : ∀ X : World, (Instr.slice 68 (.slice (some ⟨g, 0, none⟩) xs.length c) none (some (.int .i64 (k : Int))) none).run Tryd.prog X = .ok (.slice (some ⟨g, 0, none⟩) k c) X := cut_to (P := Tryd.prog) 68 98 .i64 Tryd.underlying68 hi0 (some ⟨g, 0, none⟩) xs.length c (k : Int) (by omega) (by omega) (by omega)
  obtain ⟨AA, hAA⟩ : ∃ AA : Option Addr, (if c = k + 1 then (some ⟨g, 0, none⟩ : Option Addr) else (some ⟨g, 0, none⟩ : Option Addr).map (·.add ((k + 1) * 5))) = AA := ⟨_, rfl⟩
  have hcut2 : ∀ X : World, (Instr.slice 68 (.slice (some ⟨g, 0, none⟩) xs.length c) (some (.int .i64 ((k : Int) + 1))) none none).run Tryd.prog X = .ok (.slice AA (xs.length - (k + 1)) (c - (k + 1))) X := by
    intro X
    have h := cut_from (P := Tryd.prog) 68 98 .i64 Tryd.underlying68 hi0 5 hsz (some ⟨g, 0, none⟩) xs.length c ((k : Int) + 1) (by omega) (by omega) X
    rw [show ((k : Int) + 1).toNat = k + 1 by omega, hAA] at h
    exact h
  have hq : ((k : Int) == (k : Int) + 1) = false := by rw [beq_eq_false_iff_ne]; omega
  have HA := Lib.hid hAA
  have hk0 : (0 : Int) ≤ (k : Int) := by omega
  have hkl : (k : Int) < (xs.length : Int) := by omega
  clear hR hi0 hsz hAA
  go_enter Tryd.func150, Tryd.ntmps150
  go_wp2_with fail
  go_region_law
    ((refine step_del k98 B (by rfl) (.tmp 22) (.tmp 25) 68 98 (by rfl) Tryd.underlying68 (by kernel_rfl) (g := g) (n := xs.length) (c := c) (k := k) (m := xs.length - (k + 1)) (c2 := c - (k + 1)) (A := AA) (by rfl) (by rfl) HA.out.symm rfl (by repeat (first | exact HR.out | refine Kd.R_drew ?_)) hk ?_; intro w1 hr hg1; have HR1 := Aside0.mk hr; have HG1 := Aside0.mk hg1; clear hr hg1))
  all_goals
    obtain ⟨cur, hcur, hcs⟩ := R_block HR1.out
    have hq1 : ∀ j, j < (Value.agg #[.int .i64 0, .string ⟨#[]⟩, .slice none 0 0, .bool false, .int .i64 0]).cells.size → (w1.cell? ⟨g, (xs.length - 1) * 5 + j, none⟩).isSome = true := fun j hj => blk_some hcur (by have hj' : j < 5 := hj; rw [hcs]; show (xs.length - 1) * 5 + j < c * 5; omega)
    have hq2 : ∀ j, j < (Value.agg #[.int .i64 0, .string ⟨#[]⟩, .slice none 0 0, .bool false, .int .i64 0]).cells.size → w1.frozen? ⟨g, (xs.length - 1) * 5 + j, none⟩ = false := fun j _ => blk_frozen hcur _
    have hz := fun ty => clear_one (P := Tryd.prog) w1 68 98 ty _ Tryd.underlying68 zeroV98 g ((xs.length - 1) * 5) (c - (xs.length - 1)) hq1 hq2 (by simp [Value.cells, Value.oneCell']) (xs.length - (xs.length - 1)) (by omega)
    have HZ := Aside0.mk (R_tails (Value.agg #[.int .i64 0, .string ⟨#[]⟩, .slice none 0 0, .bool false, .int .i64 0]).cells.toList ((xs.length - 1) * 5) w1 HR1.out (Nat.le_refl _))
    have HK := Aside0.mk (keep_sets (g := g) (Value.agg #[.int .i64 0, .string ⟨#[]⟩, .slice none 0 0, .bool false, .int .i64 0]).cells.toList ((xs.length - 1) * 5) w1)
    clear hcur hcs hq1 hq2 hcut1 hcut2
    go_wp2
    go_ret
    refine ⟨rfl, HZ.out, ?_⟩
    obtain ⟨k1, k2, k3⟩ := HK.out
    exact ⟨k2.os.trans HG1.out.os, k2.tape.trans HG1.out.tape, k2.output.trans HG1.out.output, Nat.le_trans HG1.out.size (Nat.le_of_eq k3), fun j hj hne => (k1 j (Nat.lt_of_lt_of_le hj HG1.out.size) (fun e => hne (by rw [e]))).trans (HG1.out.block j hj hne)⟩
set_option maxRecDepth 100000 in
set_option maxHeartbeats 4000000 in
theorem del151 (xs : List S75) (g c k : Nat) (W : World) (B : Nat) (ok : Nat → Prop) (hR : k75.R 75 W B ok (.slice (some ⟨g, 0, none⟩) xs.length c) xs) (hk : k < xs.length) (hx : xs.length ≤ 1000) :
    Calls Tryd.prog 151 #[.slice (some ⟨g, 0, none⟩) xs.length c, .int .i64 (k : Int), .int .i64 ((k : Int) + 1)] W fun e W' => e = .returned (.slice (some ⟨g, 0, none⟩) (xs.length - 1) c) ∧ k75.R 75 W' B ok (.slice (some ⟨g, 0, none⟩) (xs.length - 1) c) (xs.eraseIdx k) ∧ W.grownBy W' (some g) := by
  have hlc := (Kd.R_reads' hR).2.1
  have HR := Aside0.mk hR
  have HRd := Aside0.mk (Kd.R_below hR (below_drew (Below.refl _ W)))
  obtain ⟨i0, hi0, _, hsz, _⟩ := info_parts info75
  have hcut1 : ∀ X : World, (Instr.slice 67 (.slice (some ⟨g, 0, none⟩) xs.length c) none (some (.int .i64 (k : Int))) none).run Tryd.prog X = .ok (.slice (some ⟨g, 0, none⟩) k c) X := cut_to (P := Tryd.prog) 67 75 .i64 Tryd.underlying67 hi0 (some ⟨g, 0, none⟩) xs.length c (k : Int) (by omega) (by omega) (by omega)
  obtain ⟨AA, hAA⟩ : ∃ AA : Option Addr, (if c = k + 1 then (some ⟨g, 0, none⟩ : Option Addr) else (some ⟨g, 0, none⟩ : Option Addr).map (·.add ((k + 1) * 9))) = AA := ⟨_, rfl⟩
  have hcut2 : ∀ X : World, (Instr.slice 67 (.slice (some ⟨g, 0, none⟩) xs.length c) (some (.int .i64 ((k : Int) + 1))) none none).run Tryd.prog X = .ok (.slice AA (xs.length - (k + 1)) (c - (k + 1))) X := by
    intro X
    have h := cut_from (P := Tryd.prog) 67 75 .i64 Tryd.underlying67 hi0 9 hsz (some ⟨g, 0, none⟩) xs.length c ((k : Int) + 1) (by omega) (by omega) X
    rw [show ((k : Int) + 1).toNat = k + 1 by omega, hAA] at h
    exact h
  have hq : ((k : Int) == (k : Int) + 1) = false := by rw [beq_eq_false_iff_ne]; omega
  have HA := Lib.hid hAA
  have hk0 : (0 : Int) ≤ (k : Int) := by omega
  have hkl : (k : Int) < (xs.length : Int) := by omega
  clear hR hi0 hsz hAA
  go_enter Tryd.func151, Tryd.ntmps151
  go_wp2_with fail
  go_region_law
    ((refine step_del k75 B (by rfl) (.tmp 22) (.tmp 25) 67 75 (by rfl) Tryd.underlying67 (by kernel_rfl) (g := g) (n := xs.length) (c := c) (k := k) (m := xs.length - (k + 1)) (c2 := c - (k + 1)) (A := AA) (by rfl) (by rfl) HA.out.symm rfl (by repeat (first | exact HR.out | refine Kd.R_drew ?_)) hk ?_; intro w1 hr hg1; have HR1 := Aside0.mk hr; have HG1 := Aside0.mk hg1; clear hr hg1))
  all_goals
    obtain ⟨cur, hcur, hcs⟩ := R_block HR1.out
    have hq1 : ∀ j, j < (Value.agg #[.int .i64 0, .string ⟨#[]⟩, .int .i64 0, .int .i64 0, .int .i64 0, .int .i64 0, .int .i64 0, .int .u64 0, .string ⟨#[]⟩]).cells.size → (w1.cell? ⟨g, (xs.length - 1) * 9 + j, none⟩).isSome = true := fun j hj => blk_some hcur (by have hj' : j < 9 := hj; rw [hcs]; show (xs.length - 1) * 9 + j < c * 9; omega)
    have hq2 : ∀ j, j < (Value.agg #[.int .i64 0, .string ⟨#[]⟩, .int .i64 0, .int .i64 0, .int .i64 0, .int .i64 0, .int .i64 0, .int .u64 0, .string ⟨#[]⟩]).cells.size → w1.frozen? ⟨g, (xs.length - 1) * 9 + j, none⟩ = false := fun j _ => blk_frozen hcur _
    have hz := fun ty => clear_one (P := Tryd.prog) w1 67 75 ty _ Tryd.underlying67 zeroV75 g ((xs.length - 1) * 9) (c - (xs.length - 1)) hq1 hq2 (by simp [Value.cells, Value.oneCell']) (xs.length - (xs.length - 1)) (by omega)
    have HZ := Aside0.mk (R_tails (Value.agg #[.int .i64 0, .string ⟨#[]⟩, .int .i64 0, .int .i64 0, .int .i64 0, .int .i64 0, .int .i64 0, .int .u64 0, .string ⟨#[]⟩]).cells.toList ((xs.length - 1) * 9) w1 HR1.out (Nat.le_refl _))
    have HK := Aside0.mk (keep_sets (g := g) (Value.agg #[.int .i64 0, .string ⟨#[]⟩, .int .i64 0, .int .i64 0, .int .i64 0, .int .i64 0, .int .i64 0, .int .u64 0, .string ⟨#[]⟩]).cells.toList ((xs.length - 1) * 9) w1)
    clear hcur hcs hq1 hq2 hcut1 hcut2
    go_wp2
    go_ret
    refine ⟨rfl, HZ.out, ?_⟩
    obtain ⟨k1, k2, k3⟩ := HK.out
    exact ⟨k2.os.trans HG1.out.os, k2.tape.trans HG1.out.tape, k2.output.trans HG1.out.output, Nat.le_trans HG1.out.size (Nat.le_of_eq k3), fun j hj hne => (k1 j (Nat.lt_of_lt_of_le hj HG1.out.size) (fun e => hne (by rw [e]))).trans (HG1.out.block j hj hne)⟩
end Go.Proofs.YtjgomlcdmpcoaaaDoor.H
