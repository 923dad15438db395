/- Own texts of this session, packed by its program wip/pp/pack.py: lemmas and walks of functions. -/
import Derived.Deep.RegionLaw
import Derived.Defers
import Derived.Recover
import Derived.Laws.Pointers
import Derived.Deep.QuietTactic
import Derived.Test.YtjgomlcdmpcoaaaDoorKBack3
import Derived.Test.YtjgomlcdmpcoaaaDoorKBack4
import Derived.Test.YtjgomlcdmpcoaaaDoorKBack5
namespace Go.Proofs.YtjgomlcdmpcoaaaDoor.H
open Go.RowKit Go.Proofs.YtjgomlcdmpcoaaaDoorW.PrintWords Go.Proofs.YtjgomlcdmpcoaaaDoorW.PrintLast Go.Proofs.YtjgomlcdmpcoaaaDoorW.PrintMore
open Go.Proofs.YtjgomlcdmpcoaaaDoor.D Go.Proofs.YtjgomlcdmpcoaaaDoor
set_option linter.unusedVariables false
set_option linter.unusedSimpArgs false
theorem Rd.far {g : Nat} {w W : World} (h : Rd g w W) (hg : g < w.heap.size) {p : Addr} (hp : w.heap.size ≤ p.block) (v : Value) : Rd g w (W.setCell p v) :=
  ⟨h.below.setCell (p := p) (by omega) v, fun i hi hne => (Below.heap_setCell _ _ _ _ (by omega)).trans (h.block i hi hne)⟩
structure BoxSt (T : TypeId) (g : Nat) (w W : World) (B : Nat) (l : List Int) (zs cs : Array Value) : Prop where
  lt : g < w.heap.size
  rb : RB W g l
  rd : Rd g w W
  zb : W.heap[w.heap.size]? = some (.cells zs T (0, 0))
  hB : w.heap.size < B
  cb : W.heap[B]? = some (.cells cs T (0, 0))
section
variable {T : TypeId} {g : Nat} {w W W' : World} {B : Nat} {l l' : List Int} {zs cs cs' : Array Value}
theorem BoxSt.call (h : BoxSt T g w W B l zs cs) (hrb : RB W' g l') (hrd : Rd g W W') : BoxSt T g w W' B l' zs cs :=
  ⟨h.lt, hrb, h.rd.trans hrd, hrd.blk h.zb (by have := h.lt; omega), h.hB, hrd.blk h.cb (by have := h.lt; have := h.hB; omega)⟩
theorem BoxSt.put (h : BoxSt T g w W B l zs cs) (i : Nat) (v : Value) (e : cs.setIfInBounds i v = cs') : BoxSt T g w (W.setCell ⟨B, i, none⟩ v) B l zs cs' :=
  ⟨h.lt, ⟨h.rb.1, h.rb.2.1, blk_far h.rb.2.2 (p := ⟨B, i, none⟩) (by have := h.lt; have := h.hB; show g ≠ B; omega) v⟩, h.rd.far h.lt (p := ⟨B, i, none⟩) (Nat.le_of_lt h.hB) v,
    blk_far h.zb (p := ⟨B, i, none⟩) (by have := h.hB; show w.heap.size ≠ B; omega) v, h.hB, blk_put h.cb i v e⟩
end
structure ZSt (T : TypeId) (g : Nat) (w W : World) (l : List Int) (zs : Array Value) : Prop where
  lt : g < w.heap.size
  rb : RB W g l
  rd : Rd g w W
  zb : W.heap[w.heap.size]? = some (.cells zs T (0, 0))
section
variable {T : TypeId} {g : Nat} {w W W' : World} {l l' : List Int} {zs cs : Array Value}
theorem ZSt.new (h : RB w g l) (T : TypeId) (zs : Array Value) : ZSt T g w (w.alloc (.cells zs T)) l zs :=
  have hb := below_alloc (Below.refl _ w) (.cells zs T)
  ⟨h.lt, h.below hb, Rd.of_below hb (Nat.le_of_lt h.lt), heap_alloc_new w _⟩
theorem ZSt.call (h : ZSt T g w W l zs) (hrb : RB W' g l') (hrd : Rd g W W') : ZSt T g w W' l' zs :=
  ⟨h.lt, hrb, h.rd.trans hrd, hrd.blk h.zb (by have := h.lt; omega)⟩
theorem ZSt.put (h : ZSt T g w W l zs) (i : Nat) (v : Value) (e : zs.setIfInBounds i v = cs) : ZSt T g w (W.setCell ⟨w.heap.size, i, none⟩ v) l cs :=
  ⟨h.lt, ⟨h.rb.1, h.rb.2.1, blk_far h.rb.2.2 (p := ⟨w.heap.size, i, none⟩) (Nat.ne_of_lt h.lt) v⟩, h.rd.far h.lt (p := ⟨w.heap.size, i, none⟩) (Nat.le_refl _) v, blk_put h.zb i v e⟩
theorem BoxSt.z {B : Nat} (h : BoxSt T g w W B l zs cs) : ZSt T g w W l zs := ⟨h.lt, h.rb, h.rd, h.zb⟩
theorem ZSt.box (h : ZSt T g w W l zs) (cs : Array Value) : BoxSt T g w (W.alloc (.cells cs T)) W.heap.size l zs cs :=
  have hb := below_alloc (Below.refl _ W) (.cells cs T)
  ⟨h.lt, h.rb.below hb, h.rd.trans (Rd.of_below hb (Nat.le_of_lt h.rb.lt)), blk_below h.zb hb, lt_of_block h.zb, heap_alloc_new W _⟩
end
def rdCol (l : List Int) : Option (S75 × List Int) := (rdN l).bind fun a => (rdT a.2).bind fun b => (rdN b.2).bind fun c => (rdN c.2).bind fun d => (rdN d.2).bind fun e => (rdN e.2).bind fun f => (rdW f.2).bind fun n => (rdW n.2).bind fun v => (rdT v.2).bind fun s =>
  some (⟨a.1, b.1, c.1, d.1, e.1, ⟨f.1, wrap64 n.1, v.1, s.1⟩⟩, s.2)
def colV (x : S75) : Value := .agg #[.int .i64 x.f0, .string x.f1, .int .i64 x.f2, .int .i64 x.f3, .int .i64 x.f4, .int .i64 x.f5.f0, .int .i64 x.f5.f1, .int .u64 x.f5.f2, .string x.f5.f3]
set_option maxRecDepth 100000 in
set_option maxHeartbeats 16000000 in
theorem rcol_rd (g : Nat) (l : List Int) (w : World) (h : RB w g l) : Calls Tryd.prog 138 #[.pointer (some ⟨g, 0, none⟩)] w (RdPost g w ((rdCol l).map fun p => (colV p.1, p.2))) := by
  have HS := Aside0.mk (ZSt.new h 75 #[.int .i64 0, .string ⟨#[]⟩, .int .i64 0, .int .i64 0, .int .i64 0, .int .i64 0, .int .i64 0, .int .u64 0, .string ⟨#[]⟩])
  obtain ⟨R, hR⟩ : ∃ R, rdCol l = R := ⟨_, rfl⟩
  rw [hR]
  have HR := Lib.hid hR
  unfold rdCol at HR
  clear hR h
  go_enter Tryd.func138, Tryd.ntmps138
  go_wp2_with fail
  refine (rnumr_calls g l _ HS.out.rb).mono fun e w1 h => ?_
  have hR := HR.out
  cases hK : rdN l with
  | none =>
    rw [hK] at h hR
    obtain rfl : none = R := hR
    obtain ⟨rfl, hrd⟩ := h.none
    exact ⟨rfl, rfl, HS.out.rd.trans hrd⟩
  | some q =>
    obtain ⟨a0, l1⟩ := q
    rw [hK] at h hR
    simp only [Option.bind_some] at hR
    obtain ⟨rfl, hrb, hrd⟩ := h.some
    have n_ := Aside0.mk (HS.out.call hrb hrd)
    have HR1 := Lib.hid hR
    clear hK h hR HR HS hrb hrd
    have HS := n_
    have HR := HR1
    clear n_ HR1
    go_wp2_with fail
    refine (rtextr_calls g l1 _ HS.out.rb).mono fun e w2 h => ?_
    have hR := HR.out
    cases hK : rdT l1 with
    | none =>
      rw [hK] at h hR
      obtain rfl : none = R := hR
      obtain ⟨rfl, hrd⟩ := h.none
      exact ⟨rfl, rfl, HS.out.rd.trans hrd⟩
    | some q =>
      obtain ⟨a1, l2⟩ := q
      rw [hK] at h hR
      simp only [Option.bind_some] at hR
      obtain ⟨rfl, hrb, hrd⟩ := h.some
      have n_ := Aside0.mk (HS.out.call hrb hrd)
      have HR1 := Lib.hid hR
      clear hK h hR HR HS hrb hrd
      have HS := n_
      have HR := HR1
      clear n_ HR1
      have n_ := Aside0.mk (HS.out.box #[.int .i64 a0, .string a1, .int .i64 0, .int .i64 0, .int .i64 0, .int .i64 0, .int .i64 0, .int .u64 0, .string ⟨#[]⟩])
      clear HS
      have HS := n_
      clear n_
      go_wp2_with fail
      refine (rnumr_calls g l2 _ HS.out.rb).mono fun e w3 h => ?_
      have hR := HR.out
      cases hK : rdN l2 with
      | none =>
        rw [hK] at h hR
        obtain rfl : none = R := hR
        obtain ⟨rfl, hrd⟩ := h.none
        exact ⟨rfl, rfl, HS.out.rd.trans hrd⟩
      | some q =>
        obtain ⟨a2, l3⟩ := q
        rw [hK] at h hR
        simp only [Option.bind_some] at hR
        obtain ⟨rfl, hrb, hrd⟩ := h.some
        have n_ := Aside0.mk (HS.out.call hrb hrd)
        have HR1 := Lib.hid hR
        clear hK h hR HR HS hrb hrd
        have HS := n_
        have HR := HR1
        clear n_ HR1
        go_wp2_with fail
        refine (rnumr_calls g l3 _ HS.out.rb).mono fun e w4 h => ?_
        have hR := HR.out
        cases hK : rdN l3 with
        | none =>
          rw [hK] at h hR
          obtain rfl : none = R := hR
          obtain ⟨rfl, hrd⟩ := h.none
          exact ⟨rfl, rfl, HS.out.rd.trans hrd⟩
        | some q =>
          obtain ⟨a3, l4⟩ := q
          rw [hK] at h hR
          simp only [Option.bind_some] at hR
          obtain ⟨rfl, hrb, hrd⟩ := h.some
          have n_ := Aside0.mk (HS.out.call hrb hrd)
          have HR1 := Lib.hid hR
          clear hK h hR HR HS hrb hrd
          have HS := n_
          have HR := HR1
          clear n_ HR1
          go_wp2_with fail
          refine (rnumr_calls g l4 _ HS.out.rb).mono fun e w5 h => ?_
          have hR := HR.out
          cases hK : rdN l4 with
          | none =>
            rw [hK] at h hR
            obtain rfl : none = R := hR
            obtain ⟨rfl, hrd⟩ := h.none
            exact ⟨rfl, rfl, HS.out.rd.trans hrd⟩
          | some q =>
            obtain ⟨a4, l5⟩ := q
            rw [hK] at h hR
            simp only [Option.bind_some] at hR
            obtain ⟨rfl, hrb, hrd⟩ := h.some
            have n_ := Aside0.mk (HS.out.call hrb hrd)
            have HR1 := Lib.hid hR
            clear hK h hR HR HS hrb hrd
            have HS := n_
            have HR := HR1
            clear n_ HR1
            have c2 := H.blk_cell (j := 2) (v := .int .i64 0) HS.out.cb rfl
            have f2 := blk_frozen HS.out.cb 2
            have c3 := H.blk_cell (j := 3) (v := .int .i64 0) HS.out.cb rfl
            have f3 := blk_frozen HS.out.cb 3
            have c4 := H.blk_cell (j := 4) (v := .int .i64 0) HS.out.cb rfl
            have f4 := blk_frozen HS.out.cb 4
            go_wp2_with fail
            have n_ := Aside0.mk (HS.out.put (cs' := #[.int .i64 a0, .string a1, .int .i64 a2, .int .i64 0, .int .i64 0, .int .i64 0, .int .i64 0, .int .u64 0, .string ⟨#[]⟩]) 2 (.int .i64 a2) rfl)
            clear HS c2 f2
            have HS := n_
            clear n_
            have n_ := Aside0.mk (HS.out.put (cs' := #[.int .i64 a0, .string a1, .int .i64 a2, .int .i64 a3, .int .i64 0, .int .i64 0, .int .i64 0, .int .u64 0, .string ⟨#[]⟩]) 3 (.int .i64 a3) rfl)
            clear HS c3 f3
            have HS := n_
            clear n_
            have n_ := Aside0.mk (HS.out.put (cs' := #[.int .i64 a0, .string a1, .int .i64 a2, .int .i64 a3, .int .i64 a4, .int .i64 0, .int .i64 0, .int .u64 0, .string ⟨#[]⟩]) 4 (.int .i64 a4) rfl)
            clear HS c4 f4
            have HS := n_
            clear n_
            refine (rnumr_calls g l5 _ HS.out.rb).mono fun e w6 h => ?_
            have hR := HR.out
            cases hK : rdN l5 with
            | none =>
              rw [hK] at h hR
              obtain rfl : none = R := hR
              obtain ⟨rfl, hrd⟩ := h.none
              exact ⟨rfl, rfl, HS.out.rd.trans hrd⟩
            | some q =>
              obtain ⟨a5, l6⟩ := q
              rw [hK] at h hR
              simp only [Option.bind_some] at hR
              obtain ⟨rfl, hrb, hrd⟩ := h.some
              have n_ := Aside0.mk (HS.out.call hrb hrd)
              have HR1 := Lib.hid hR
              clear hK h hR HR HS hrb hrd
              have HS := n_
              have HR := HR1
              clear n_ HR1
              have c5 := H.blk_cell (j := 5) (v := .int .i64 0) HS.out.cb rfl
              have f5 := blk_frozen HS.out.cb 5
              go_wp2_with fail
              have n_ := Aside0.mk (HS.out.put (cs' := #[.int .i64 a0, .string a1, .int .i64 a2, .int .i64 a3, .int .i64 a4, .int .i64 a5, .int .i64 0, .int .u64 0, .string ⟨#[]⟩]) 5 (.int .i64 a5) rfl)
              clear HS c5 f5
              have HS := n_
              clear n_
              refine (rword_calls g l6 _ HS.out.rb).mono fun e w7 h => ?_
              have hR := HR.out
              cases hK : rdW l6 with
              | none =>
                rw [hK] at h hR
                obtain rfl : none = R := hR
                obtain ⟨rfl, hrd⟩ := h.none
                exact ⟨rfl, rfl, HS.out.rd.trans hrd⟩
              | some q =>
                obtain ⟨a6, l7⟩ := q
                rw [hK] at h hR
                simp only [Option.bind_some] at hR
                obtain ⟨rfl, hrb, hrd⟩ := h.some
                have n_ := Aside0.mk (HS.out.call hrb hrd)
                have HR1 := Lib.hid hR
                clear hK h hR HR HS hrb hrd
                have HS := n_
                have HR := HR1
                clear n_ HR1
                have c6 := H.blk_cell (j := 6) (v := .int .i64 0) HS.out.cb rfl
                have f6 := blk_frozen HS.out.cb 6
                go_wp2_with fail
                have n_ := Aside0.mk (HS.out.put (cs' := #[.int .i64 a0, .string a1, .int .i64 a2, .int .i64 a3, .int .i64 a4, .int .i64 a5, .int .i64 (wrap64 a6), .int .u64 0, .string ⟨#[]⟩]) 6 (.int .i64 (wrap64 a6)) rfl)
                clear HS c6 f6
                have HS := n_
                clear n_
                refine (rword_calls g l7 _ HS.out.rb).mono fun e w8 h => ?_
                have hR := HR.out
                cases hK : rdW l7 with
                | none =>
                  rw [hK] at h hR
                  obtain rfl : none = R := hR
                  obtain ⟨rfl, hrd⟩ := h.none
                  exact ⟨rfl, rfl, HS.out.rd.trans hrd⟩
                | some q =>
                  obtain ⟨a7, l8⟩ := q
                  rw [hK] at h hR
                  simp only [Option.bind_some] at hR
                  obtain ⟨rfl, hrb, hrd⟩ := h.some
                  have n_ := Aside0.mk (HS.out.call hrb hrd)
                  have HR1 := Lib.hid hR
                  clear hK h hR HR HS hrb hrd
                  have HS := n_
                  have HR := HR1
                  clear n_ HR1
                  have c7 := H.blk_cell (j := 7) (v := .int .u64 0) HS.out.cb rfl
                  have f7 := blk_frozen HS.out.cb 7
                  go_wp2_with fail
                  have n_ := Aside0.mk (HS.out.put (cs' := #[.int .i64 a0, .string a1, .int .i64 a2, .int .i64 a3, .int .i64 a4, .int .i64 a5, .int .i64 (wrap64 a6), .int .u64 a7, .string ⟨#[]⟩]) 7 (.int .u64 a7) rfl)
                  clear HS c7 f7
                  have HS := n_
                  clear n_
                  refine (rtextr_calls g l8 _ HS.out.rb).mono fun e w9 h => ?_
                  have hR := HR.out
                  cases hK : rdT l8 with
                  | none =>
                    rw [hK] at h hR
                    obtain rfl : none = R := hR
                    obtain ⟨rfl, hrd⟩ := h.none
                    exact ⟨rfl, rfl, HS.out.rd.trans hrd⟩
                  | some q =>
                    obtain ⟨a8, l9⟩ := q
                    rw [hK] at h hR
                    simp only [Option.bind_some] at hR
                    obtain ⟨rfl, hrb, hrd⟩ := h.some
                    have n_ := Aside0.mk (HS.out.call hrb hrd)
                    have HR1 := Lib.hid hR
                    clear hK h hR HR HS hrb hrd
                    have HS := n_
                    have HR := HR1
                    clear n_ HR1
                    have c0 := H.blk_cell (j := 0) (v := .int .i64 a0) HS.out.cb rfl
                    have c1 := H.blk_cell (j := 1) (v := .string a1) HS.out.cb rfl
                    have c2 := H.blk_cell (j := 2) (v := .int .i64 a2) HS.out.cb rfl
                    have c3 := H.blk_cell (j := 3) (v := .int .i64 a3) HS.out.cb rfl
                    have c4 := H.blk_cell (j := 4) (v := .int .i64 a4) HS.out.cb rfl
                    have c5 := H.blk_cell (j := 5) (v := .int .i64 a5) HS.out.cb rfl
                    have c6 := H.blk_cell (j := 6) (v := .int .i64 (wrap64 a6)) HS.out.cb rfl
                    have c7 := H.blk_cell (j := 7) (v := .int .u64 a7) HS.out.cb rfl
                    have c8 := H.blk_cell (j := 8) (v := .string ⟨#[]⟩) HS.out.cb rfl
                    have f8 := blk_frozen HS.out.cb 8
                    have z0 := H.blk_cell (j := 0) (v := .int .i64 0) HS.out.zb rfl
                    have g0 := blk_frozen HS.out.zb 0
                    have z1 := H.blk_cell (j := 1) (v := .string ⟨#[]⟩) HS.out.zb rfl
                    have g1 := blk_frozen HS.out.zb 1
                    have z2 := H.blk_cell (j := 2) (v := .int .i64 0) HS.out.zb rfl
                    have g2 := blk_frozen HS.out.zb 2
                    have z3 := H.blk_cell (j := 3) (v := .int .i64 0) HS.out.zb rfl
                    have g3 := blk_frozen HS.out.zb 3
                    have z4 := H.blk_cell (j := 4) (v := .int .i64 0) HS.out.zb rfl
                    have g4 := blk_frozen HS.out.zb 4
                    have z5 := H.blk_cell (j := 5) (v := .int .i64 0) HS.out.zb rfl
                    have g5 := blk_frozen HS.out.zb 5
                    have z6 := H.blk_cell (j := 6) (v := .int .i64 0) HS.out.zb rfl
                    have g6 := blk_frozen HS.out.zb 6
                    have z7 := H.blk_cell (j := 7) (v := .int .u64 0) HS.out.zb rfl
                    have g7 := blk_frozen HS.out.zb 7
                    have z8 := H.blk_cell (j := 8) (v := .string ⟨#[]⟩) HS.out.zb rfl
                    have g8 := blk_frozen HS.out.zb 8
                    have hne : w.heap.size ≠ w2.heap.size := Nat.ne_of_lt HS.out.hB
                    have hne2 : w2.heap.size ≠ w.heap.size := (Nat.ne_of_lt HS.out.hB).symm
                    obtain rfl : some _ = R := HR.out
                    have HZ := Aside0.mk (HS.out.put (cs' := #[.int .i64 a0, .string a1, .int .i64 a2, .int .i64 a3, .int .i64 a4, .int .i64 a5, .int .i64 (wrap64 a6), .int .u64 a7, .string a8]) 8 (.string a8) rfl).z
                    go_wp2
                    have HZ := Aside0.mk (HZ.out.put (cs := #[.int .i64 a0, .string ⟨#[]⟩, .int .i64 0, .int .i64 0, .int .i64 0, .int .i64 0, .int .i64 0, .int .u64 0, .string ⟨#[]⟩]) 0 (.int .i64 a0) rfl)
                    have HZ := Aside0.mk (HZ.out.put (cs := #[.int .i64 a0, .string a1, .int .i64 0, .int .i64 0, .int .i64 0, .int .i64 0, .int .i64 0, .int .u64 0, .string ⟨#[]⟩]) 1 (.string a1) rfl)
                    have HZ := Aside0.mk (HZ.out.put (cs := #[.int .i64 a0, .string a1, .int .i64 a2, .int .i64 0, .int .i64 0, .int .i64 0, .int .i64 0, .int .u64 0, .string ⟨#[]⟩]) 2 (.int .i64 a2) rfl)
                    have HZ := Aside0.mk (HZ.out.put (cs := #[.int .i64 a0, .string a1, .int .i64 a2, .int .i64 a3, .int .i64 0, .int .i64 0, .int .i64 0, .int .u64 0, .string ⟨#[]⟩]) 3 (.int .i64 a3) rfl)
                    have HZ := Aside0.mk (HZ.out.put (cs := #[.int .i64 a0, .string a1, .int .i64 a2, .int .i64 a3, .int .i64 a4, .int .i64 0, .int .i64 0, .int .u64 0, .string ⟨#[]⟩]) 4 (.int .i64 a4) rfl)
                    have HZ := Aside0.mk (HZ.out.put (cs := #[.int .i64 a0, .string a1, .int .i64 a2, .int .i64 a3, .int .i64 a4, .int .i64 a5, .int .i64 0, .int .u64 0, .string ⟨#[]⟩]) 5 (.int .i64 a5) rfl)
                    have HZ := Aside0.mk (HZ.out.put (cs := #[.int .i64 a0, .string a1, .int .i64 a2, .int .i64 a3, .int .i64 a4, .int .i64 a5, .int .i64 (wrap64 a6), .int .u64 0, .string ⟨#[]⟩]) 6 (.int .i64 (wrap64 a6)) rfl)
                    have HZ := Aside0.mk (HZ.out.put (cs := #[.int .i64 a0, .string a1, .int .i64 a2, .int .i64 a3, .int .i64 a4, .int .i64 a5, .int .i64 (wrap64 a6), .int .u64 a7, .string ⟨#[]⟩]) 7 (.int .u64 a7) rfl)
                    have HZ := Aside0.mk (HZ.out.put (cs := #[.int .i64 a0, .string a1, .int .i64 a2, .int .i64 a3, .int .i64 a4, .int .i64 a5, .int .i64 (wrap64 a6), .int .u64 a7, .string a8]) 8 (.string a8) rfl)
                    have hz := HZ.out
                    generalize ((((((((((w9.setCell ⟨w2.heap.size, 8, none⟩ (.string a8)).setCell ⟨w.heap.size, 0, none⟩ (.int .i64 a0)).setCell ⟨w.heap.size, 1, none⟩ (.string a1)).setCell ⟨w.heap.size, 2, none⟩ (.int .i64 a2)).setCell ⟨w.heap.size, 3, none⟩ (.int .i64 a3)).setCell ⟨w.heap.size, 4, none⟩ (.int .i64 a4)).setCell ⟨w.heap.size, 5, none⟩ (.int .i64 a5)).setCell ⟨w.heap.size, 6, none⟩ (.int .i64 (wrap64 a6))).setCell ⟨w.heap.size, 7, none⟩ (.int .u64 a7)).setCell ⟨w.heap.size, 8, none⟩ (.string a8)) = w0 at hz ⊢
                    clear HZ HS hne hne2 f8 c0 z0 g0 c1 z1 g1 c2 z2 g2 c3 z3 g3 c4 z4 g4 c5 z5 g5 c6 z6 g6 c7 z7 g7 c8 z8 g8
                    have u0 := H.blk_cell (j := 0) (v := .int .i64 a0) hz.zb rfl
                    have u1 := H.blk_cell (j := 1) (v := .string a1) hz.zb rfl
                    have u2 := H.blk_cell (j := 2) (v := .int .i64 a2) hz.zb rfl
                    have u3 := H.blk_cell (j := 3) (v := .int .i64 a3) hz.zb rfl
                    have u4 := H.blk_cell (j := 4) (v := .int .i64 a4) hz.zb rfl
                    have u5 := H.blk_cell (j := 5) (v := .int .i64 a5) hz.zb rfl
                    have u6 := H.blk_cell (j := 6) (v := .int .i64 (wrap64 a6)) hz.zb rfl
                    have u7 := H.blk_cell (j := 7) (v := .int .u64 a7) hz.zb rfl
                    have u8 := H.blk_cell (j := 8) (v := .string a8) hz.zb rfl
                    exact bodyPost_ret (v := .agg #[.int .i64 a0, .string a1, .int .i64 a2, .int .i64 a3, .int .i64 a4, .int .i64 a5, .int .i64 (wrap64 a6), .int .u64 a7, .string a8]) (by simp [results, Tryd.results138, u0, u1, u2, u3, u4, u5, u6, u7, u8, go_sem]) rfl ⟨rfl, hz.rb, hz.rd⟩
end Go.Proofs.YtjgomlcdmpcoaaaDoor.H
namespace Go.Proofs.YtjgomlcdmpcoaaaDoor.H
open Go.RowKit Go.Proofs.YtjgomlcdmpcoaaaDoorW.PrintWords Go.Proofs.YtjgomlcdmpcoaaaDoorW.PrintLast Go.Proofs.YtjgomlcdmpcoaaaDoorW.PrintMore
open Go.Proofs.YtjgomlcdmpcoaaaDoor.D Go.Proofs.YtjgomlcdmpcoaaaDoor
set_option linter.unusedVariables false
set_option linter.unusedSimpArgs false
def rdMany {α : Type} (f : List Int → Option (α × List Int)) : Nat → List Int → Option (List α × List Int)
  | 0, l => some ([], l)
  | k + 1, l => (f l).bind fun a => (rdMany f k a.2).bind fun b => some (a.1 :: b.1, b.2)
theorem many_step {α β : Type} {f : List Int → Option (α × List Int)} {k : Nat} {l l' : List Int} {a : α} (h : f l = some (a, l')) (xs : List α) (K : List α → List Int → Option β) :
    ((rdMany f (k + 1) l).bind fun b => K (xs ++ b.1) b.2) = ((rdMany f k l').bind fun b => K ((xs ++ [a]) ++ b.1) b.2) := by
  rw [rdMany, h, Option.bind_some]
  cases rdMany f k l' with
  | none => rfl
  | some b => simp
theorem many_none {α β : Type} {f : List Int → Option (α × List Int)} {k : Nat} {l : List Int} (h : f l = none) (xs : List α) (K : List α → List Int → Option β) :
    ((rdMany f (k + 1) l).bind fun b => K (xs ++ b.1) b.2) = none := by
  rw [rdMany, h]
  rfl
theorem many_end {α β : Type} {f : List Int → Option (α × List Int)} {l : List Int} (xs : List α) (K : List α → List Int → Option β) : ((rdMany f 0 l).bind fun b => K (xs ++ b.1) b.2) = K xs l := by
  rw [rdMany, Option.bind_some, List.append_nil]
theorem R_rd {α : Type} {d : Kd α} {e g : Nat} {w0 w w1 : World} {ok : Nat → Prop} {v : Value} {xs : List α} (h : d.R e w w0.heap.size ok v xs) (hg : g < w0.heap.size) (hrd : Rd g w w1) : d.R e w1 w0.heap.size ok v xs :=
  Kd.R_mono (Kd.R_move (Kd.R_bound h) (fun k hk => hrd.block k hk.2.2.1 (by have := hk.2.1; omega))) (fun _ hk => hk.1)
theorem Rd.then {g : Nat} {w W W1 : World} (h : Rd g w W) (hg : g < w.heap.size) (hb : Below w.heap.size W W1) : Rd g w W1 :=
  ⟨h.below.trans (hb.mono (Nat.le_of_lt hg)), fun i hi hne => (hb.block i hi).trans (h.block i hi hne)⟩
theorem BoxSt.grown {T : TypeId} {g : Nat} {w W W1 : World} {B : Nat} {l : List Int} {zs cs : Array Value} {row : Option Nat} {W0 : World} (h : BoxSt T g w W B l zs cs) (hb : Below w.heap.size W W1) (ha : Below W.heap.size W W0) (hg : W0.grownBy W1 row) (hne : ∀ (k : Nat) (cs : Array Value), W.heap[k]? = some (.cells cs T (0, 0)) → some k ≠ row) : BoxSt T g w W1 B l zs cs :=
  ⟨h.lt, ⟨h.rb.1, h.rb.2.1, (hb.block g h.lt).trans h.rb.2.2⟩, h.rd.then h.lt hb, blk_grown (blk_below h.zb ha) hg (hne _ _ h.zb), h.hB, blk_grown (blk_below h.cb ha) hg (hne _ _ h.cb)⟩
def rdInd1 (a0 : Int) (a1 : ByteArray) (xs : List Int) (l : List Int) : Option (S98 × List Int) := (rdN l).bind fun u => (rdN u.2).bind fun s => some (⟨a0, a1, xs, u.1 == 1, s.1⟩, s.2)
def rdInd (l : List Int) : Option (S98 × List Int) := (rdN l).bind fun a => (rdT a.2).bind fun b => (rdC b.2).bind fun n => (rdMany rdN n.1.toNat n.2).bind fun m => rdInd1 a.1 b.1 ([] ++ m.1) m.2
def IndPost (g : Nat) (w : World) (o : Option (S98 × List Int)) (e : Ending) (w' : World) : Prop := match o with
  | some (x, r) => ∃ A c, e = .returned (.agg #[.int .i64 x.f0, .string x.f1, .slice A x.f2.length c, .bool x.f3, .int .i64 x.f4]) ∧ RB w' g r ∧ Rd g w w' ∧ (Kd.int .i64).R 3 w' w.heap.size (fun _ => True) (.slice A x.f2.length c) x.f2
  | none => e = .panicked failC ∧ Rd g w w'
set_option maxRecDepth 100000 in
set_option maxHeartbeats 16000000 in
theorem rind_rd (g : Nat) (l : List Int) (w : World) (h : RB w g l) : Calls Tryd.prog 139 #[.pointer (some ⟨g, 0, none⟩)] w (IndPost g w (rdInd l)) := by
  have HS := Aside0.mk (ZSt.new h 98 #[.int .i64 0, .string ⟨#[]⟩, .slice none 0 0, .bool false, .int .i64 0])
  obtain ⟨R, hR⟩ : ∃ R, rdInd l = R := ⟨_, rfl⟩
  rw [hR]
  have HR := Lib.hid hR
  unfold rdInd at HR
  clear hR h
  go_enter Tryd.func139, Tryd.ntmps139
  go_wp2_with fail
  refine (rnumr_calls g l _ HS.out.rb).mono fun e w1 h => ?_
  have hR := HR.out
  cases hK : rdN l with
  | none =>
    rw [hK] at h hR
    obtain rfl : none = R := hR
    obtain ⟨rfl, hrd⟩ := h.none
    exact ⟨rfl, rfl, HS.out.rd.trans hrd⟩
  | some q =>
    obtain ⟨a0, l1⟩ := q
    rw [hK] at h hR
    simp only [Option.bind_some] at hR
    obtain ⟨rfl, hrb, hrd⟩ := h.some
    have n_ := Aside0.mk (HS.out.call hrb hrd)
    have HR1 := Lib.hid hR
    clear hK h hR HR HS hrb hrd
    have HS := n_
    have HR := HR1
    clear n_ HR1
    go_wp2_with fail
    refine (rtextr_calls g l1 _ HS.out.rb).mono fun e w2 h => ?_
    have hR := HR.out
    cases hK : rdT l1 with
    | none =>
      rw [hK] at h hR
      obtain rfl : none = R := hR
      obtain ⟨rfl, hrd⟩ := h.none
      exact ⟨rfl, rfl, HS.out.rd.trans hrd⟩
    | some q =>
      obtain ⟨a1, l2⟩ := q
      rw [hK] at h hR
      simp only [Option.bind_some] at hR
      obtain ⟨rfl, hrb, hrd⟩ := h.some
      have n_ := Aside0.mk (HS.out.call hrb hrd)
      have HR1 := Lib.hid hR
      clear hK h hR HR HS hrb hrd
      have HS := n_
      have HR := HR1
      clear n_ HR1
      have n_ := Aside0.mk (HS.out.box #[.int .i64 a0, .string a1, .slice none 0 0, .bool false, .int .i64 0])
      clear HS
      have HS := n_
      clear n_
      go_wp2_with fail
      refine (rcount_calls g l2 _ HS.out.rb).mono fun e w3 h => ?_
      have hR := HR.out
      cases hK : rdC l2 with
      | none =>
        rw [hK] at h hR
        obtain rfl : none = R := hR
        obtain ⟨rfl, hrd⟩ := h.none
        exact ⟨rfl, rfl, HS.out.rd.trans hrd⟩
      | some q =>
        obtain ⟨n, l3⟩ := q
        rw [hK] at h hR
        simp only [Option.bind_some] at hR
        obtain ⟨rfl, hrb, hrd⟩ := h.some
        have n_ := Aside0.mk (HS.out.call hrb hrd)
        have HR1 := Lib.hid hR
        have hn := rdC_le hK
        clear hK h hR HR HS hrb hrd
        have HS := n_
        have HR := HR1
        clear n_ HR1
        obtain ⟨k0, rfl⟩ : ∃ k : Nat, n = k := ⟨n.toNat, by omega⟩
        rw [Int.toNat_natCast] at HR
        have HROW := Aside0.mk (Kd.R_nil (Kd.int .i64) 3 w3 w.heap.size (fun _ => True))
        have hk0 : k0 ≤ 30000 := by have h9 : l3.length ≤ 30000 := HS.out.rb.2.1; have h8 : (k0 : Int) ≤ (l3.length : Int) := hn.2; omega
        clear hn
        go_wp2_with fail
        go_loopg [4] k0 (fun gg u4 wr => ∃ (k : Nat) (lr : List Int) (xs : List Int) (v : Value), k ≤ k0 ∧ k ≤ gg ∧ u4 = .int .i64 k ∧ xs.length + k = k0 ∧ Aside0 (BoxSt 98 g w wr w2.heap.size lr #[.int .i64 0, .string ⟨#[]⟩, .slice none 0 0, .bool false, .int .i64 0] #[.int .i64 a0, .string a1, v, .bool false, .int .i64 0]) ∧ Aside0 ((Kd.int .i64).R 3 wr w.heap.size (fun _ => True) v xs) ∧ Aside0 (((rdMany rdN k lr).bind fun m => rdInd1 a0 a1 (xs ++ m.1) m.2) = R))
        case atStart => exact ⟨k0, l3, [], .slice none 0 0, Nat.le_refl _, Nat.le_refl _, rfl, by simp, HS, HROW, ⟨HR.out⟩⟩
        case round =>
          obtain ⟨k, lr, xs, v, hk, hgk, rfl, hxk, HS2, HV, HRR⟩ := hrel
          clear HS HROW HR
          have HS := HS2
          clear HS2
          cases k with
          | succ k =>
            have hkz : (0 : Int) < ((k + 1 : Nat) : Int) := by omega
            have hkz2 : decide ((0 : Int) < ((k + 1 : Nat) : Int)) = true := decide_eq_true hkz
            have c2 := H.blk_cell (j := 2) (v := v) HS.out.cb rfl
            have f2 := blk_frozen HS.out.cb 2
            have hlen : (xs.length + 1) * 8 ≤ 140737488355328 := by omega
            go_wp2_with fail
            go_region_law (first
              | (go_simp; go_at_call 89; refine (rnumr_calls g lr _ (HS.out.rb.below (below_drew (Below.refl _ _)))).mono fun e w' h => ?_; rcases hK : rdN lr with _ | ⟨a, l'⟩; (rw [hK] at h; have hR := HRR.out; rw [many_none hK] at hR; subst hR; obtain ⟨rfl, hrd⟩ := h.none; exact ⟨rfl, rfl, (HS.out.rd.trans (Rd.of_below (below_drew (Below.refl _ _)) (Nat.le_of_lt HS.out.rb.lt))).trans hrd⟩); (rw [hK] at h; have hR := HRR.out; rw [many_step hK] at hR; have HR2 := Aside0.mk hR; obtain ⟨rfl, hrb, hrd⟩ := h.some; have HS3 := Aside0.mk ((HS.out.call (HS.out.rb.below (below_drew (Below.refl _ _))) (Rd.of_below (below_drew (Below.refl _ _)) (Nat.le_of_lt HS.out.rb.lt))).call hrb hrd); have HV3 := Aside0.mk (R_rd HV.out HS.out.lt ((Rd.of_below (below_drew (Below.refl _ _)) (Nat.le_of_lt HS.out.rb.lt)).trans hrd)); have c3 := H.blk_cell (j := 2) (v := v) HS3.out.cb rfl; have hl3 := lt_of_block HS3.out.cb; clear h hrb hrd hK hR))
              | (refine Kd.R_append_step (Kd.int .i64) (w0 := w') w.heap.size (by rfl) (.tmp 17) (.tmp 20) 40 3 (.int .i64 0) 8 rfl Tryd.underlying40 info3 rfl (by decide) (by omega) v xs a [.int .i64 a] (fun _ => True) (fun _ => False) rfl rfl rfl (fun _ hk => hk.elim) (fun _ _ => trivial) HV3.out (Below.refl _ _) HS3.out.rd.size hlen ?_; intro v1 w1' ho hb hg hat; obtain ⟨A1, cc1, e1⟩ := Kd.R_slice ho; rw [show (xs ++ [a]).length = xs.length + 1 by simp] at e1; subst e1; have HS4 := Aside0.mk (HS3.out.grown hb (Below.refl _ _) hg (fun k cs hk => Kd.R_ne HV3.out hk (by decide))); have HV4 := Aside0.mk ho; have c4 := H.blk_cell (j := 2) (v := v) HS4.out.cb rfl; have f4 := blk_frozen HS4.out.cb 2; clear ho hb hg hat))
            all_goals
              have HS5 := Aside0.mk (HS4.out.put (cs' := #[.int .i64 a0, .string a1, .slice A1 (xs.length + 1) cc1, .bool false, .int .i64 0]) 2 (.slice A1 (xs.length + 1) cc1) rfl)
              have HV5 := Aside0.mk (Kd.R_set HV4.out HS4.out.cb (by decide) 2 (.slice A1 (xs.length + 1) cc1))
              clear HS HV HS3 HV3 HS4 HV4 c2 f2 c3 c4 f4 hl3
              have hl1 : (xs ++ [a]).length + k = k0 := by rw [List.length_append, List.length_singleton]; omega
              go_wp2
              go_roundg k
              case measure => omega
              case rel => exact ⟨k, _, _, _, by omega, by omega, by go_num, hl1, HS5, HV5, HR2⟩
          | zero =>
            have hkz : ¬ (0 : Int) < ((0 : Nat) : Int) := by omega
            have HR := Lib.hid ((many_end xs (rdInd1 a0 a1)).symm.trans HRR.out)
            unfold rdInd1 at HR
            clear HRR hk hgk hxk
            obtain ⟨A, cc, e1⟩ := Kd.R_slice HV.out
            subst e1
            go_wp2_with fail
            refine (rnumr_calls g lr _ HS.out.rb).mono fun e w6 h => ?_
            have hR := HR.out
            cases hK : rdN lr with
            | none =>
              rw [hK] at h hR
              obtain rfl : none = R := hR
              obtain ⟨rfl, hrd⟩ := h.none
              exact ⟨rfl, rfl, HS.out.rd.trans hrd⟩
            | some q =>
              obtain ⟨u, l6⟩ := q
              rw [hK] at h hR
              simp only [Option.bind_some] at hR
              obtain ⟨rfl, hrb, hrd⟩ := h.some
              have n_ := Aside0.mk (HS.out.call hrb hrd)
              have HR1 := Lib.hid hR
              have HV6 := Aside0.mk (R_rd HV.out HS.out.lt hrd)
              clear HV
              have HV := HV6
              clear HV6
              clear hK h hR HR HS hrb hrd
              have HS := n_
              have HR := HR1
              clear n_ HR1
              have c3 := H.blk_cell (j := 3) (v := .bool false) HS.out.cb rfl
              have f3 := blk_frozen HS.out.cb 3
              go_wp2_with fail
              have HV7 := Aside0.mk (Kd.R_set HV.out HS.out.cb (by decide) 3 (.bool (u == 1)))
              have n_ := Aside0.mk (HS.out.put (cs' := #[.int .i64 a0, .string a1, .slice A xs.length cc, .bool (u == 1), .int .i64 0]) 3 (.bool (u == 1)) rfl)
              clear HS HV c3 f3
              have HS := n_
              have HV := HV7
              clear n_ HV7
              refine (rnumr_calls g l6 _ HS.out.rb).mono fun e w7 h => ?_
              have hR := HR.out
              cases hK : rdN l6 with
              | none =>
                rw [hK] at h hR
                obtain rfl : none = R := hR
                obtain ⟨rfl, hrd⟩ := h.none
                exact ⟨rfl, rfl, HS.out.rd.trans hrd⟩
              | some q =>
                obtain ⟨st, l7⟩ := q
                rw [hK] at h hR
                simp only [Option.bind_some] at hR
                obtain ⟨rfl, hrb, hrd⟩ := h.some
                have n_ := Aside0.mk (HS.out.call hrb hrd)
                have HR1 := Lib.hid hR
                have HV6 := Aside0.mk (R_rd HV.out HS.out.lt hrd)
                clear HV
                have HV := HV6
                clear HV6
                clear hK h hR HR HS hrb hrd
                have HS := n_
                have HR := HR1
                clear n_ HR1
                have c0 := H.blk_cell (j := 0) (v := .int .i64 a0) HS.out.cb rfl
                have c1 := H.blk_cell (j := 1) (v := .string a1) HS.out.cb rfl
                have c2 := H.blk_cell (j := 2) (v := .slice A xs.length cc) HS.out.cb rfl
                have c3 := H.blk_cell (j := 3) (v := .bool (u == 1)) HS.out.cb rfl
                have c4 := H.blk_cell (j := 4) (v := .int .i64 0) HS.out.cb rfl
                have f4 := blk_frozen HS.out.cb 4
                have z0 := H.blk_cell (j := 0) (v := .int .i64 0) HS.out.zb rfl
                have g0 := blk_frozen HS.out.zb 0
                have z1 := H.blk_cell (j := 1) (v := .string ⟨#[]⟩) HS.out.zb rfl
                have g1 := blk_frozen HS.out.zb 1
                have z2 := H.blk_cell (j := 2) (v := .slice none 0 0) HS.out.zb rfl
                have g2 := blk_frozen HS.out.zb 2
                have z3 := H.blk_cell (j := 3) (v := .bool false) HS.out.zb rfl
                have g3 := blk_frozen HS.out.zb 3
                have z4 := H.blk_cell (j := 4) (v := .int .i64 0) HS.out.zb rfl
                have g4 := blk_frozen HS.out.zb 4
                have hne : w.heap.size ≠ w2.heap.size := Nat.ne_of_lt HS.out.hB
                have hne2 : w2.heap.size ≠ w.heap.size := (Nat.ne_of_lt HS.out.hB).symm
                obtain rfl : some _ = R := HR.out
                have HV8 := Aside0.mk (Kd.R_set HV.out HS.out.cb (by decide) 4 (.int .i64 st))
                have HZ := Aside0.mk (HS.out.put (cs' := #[.int .i64 a0, .string a1, .slice A xs.length cc, .bool (u == 1), .int .i64 st]) 4 (.int .i64 st) rfl).z
                go_wp2
                have HV8 := Aside0.mk (Kd.R_set HV8.out HZ.out.zb (by decide) 0 (.int .i64 a0))
                have HZ := Aside0.mk (HZ.out.put (cs := #[.int .i64 a0, .string ⟨#[]⟩, .slice none 0 0, .bool false, .int .i64 0]) 0 (.int .i64 a0) rfl)
                have HV8 := Aside0.mk (Kd.R_set HV8.out HZ.out.zb (by decide) 1 (.string a1))
                have HZ := Aside0.mk (HZ.out.put (cs := #[.int .i64 a0, .string a1, .slice none 0 0, .bool false, .int .i64 0]) 1 (.string a1) rfl)
                have HV8 := Aside0.mk (Kd.R_set HV8.out HZ.out.zb (by decide) 2 (.slice A xs.length cc))
                have HZ := Aside0.mk (HZ.out.put (cs := #[.int .i64 a0, .string a1, .slice A xs.length cc, .bool false, .int .i64 0]) 2 (.slice A xs.length cc) rfl)
                have HV8 := Aside0.mk (Kd.R_set HV8.out HZ.out.zb (by decide) 3 (.bool (u == 1)))
                have HZ := Aside0.mk (HZ.out.put (cs := #[.int .i64 a0, .string a1, .slice A xs.length cc, .bool (u == 1), .int .i64 0]) 3 (.bool (u == 1)) rfl)
                have HV8 := Aside0.mk (Kd.R_set HV8.out HZ.out.zb (by decide) 4 (.int .i64 st))
                have HZ := Aside0.mk (HZ.out.put (cs := #[.int .i64 a0, .string a1, .slice A xs.length cc, .bool (u == 1), .int .i64 st]) 4 (.int .i64 st) rfl)
                have hz := HZ.out
                have hv := HV8.out
                generalize ((((((w7.setCell ⟨w2.heap.size, 4, none⟩ (.int .i64 st)).setCell ⟨w.heap.size, 0, none⟩ (.int .i64 a0)).setCell ⟨w.heap.size, 1, none⟩ (.string a1)).setCell ⟨w.heap.size, 2, none⟩ (.slice A xs.length cc)).setCell ⟨w.heap.size, 3, none⟩ (.bool (u == 1))).setCell ⟨w.heap.size, 4, none⟩ (.int .i64 st)) = w0 at hz hv ⊢
                clear HZ HS hne hne2 HV HV8 f4 c0 z0 g0 c1 z1 g1 c2 z2 g2 c3 z3 g3 c4 z4 g4
                have u0 := H.blk_cell (j := 0) (v := .int .i64 a0) hz.zb rfl
                have u1 := H.blk_cell (j := 1) (v := .string a1) hz.zb rfl
                have u2 := H.blk_cell (j := 2) (v := .slice A xs.length cc) hz.zb rfl
                have u3 := H.blk_cell (j := 3) (v := .bool (u == 1)) hz.zb rfl
                have u4 := H.blk_cell (j := 4) (v := .int .i64 st) hz.zb rfl
                exact bodyPost_ret (v := .agg #[.int .i64 a0, .string a1, .slice A xs.length cc, .bool (u == 1), .int .i64 st]) (by simp [results, Tryd.results139, u0, u1, u2, u3, u4, go_sem]) rfl ⟨A, cc, rfl, hz.rb, hz.rd, hv⟩
end Go.Proofs.YtjgomlcdmpcoaaaDoor.H
namespace Go.Proofs.YtjgomlcdmpcoaaaDoor.H
open Go.RowKit Go.Proofs.YtjgomlcdmpcoaaaDoorW.PrintWords Go.Proofs.YtjgomlcdmpcoaaaDoorW.PrintLast Go.Proofs.YtjgomlcdmpcoaaaDoorW.PrintMore
open Go.Proofs.YtjgomlcdmpcoaaaDoor.D Go.Proofs.YtjgomlcdmpcoaaaDoor
set_option linter.unusedVariables false
set_option linter.unusedSimpArgs false
def rdTab2 (a0 : Int) (a1 : ByteArray) (cs : List S75) (xs : List S98) (l : List Int) : Option (S70 × List Int) := (rdN l).bind fun n => some (⟨a0, a1, cs, xs, n.1⟩, n.2)
def rdTab1 (a0 : Int) (a1 : ByteArray) (cs : List S75) (l : List Int) : Option (S70 × List Int) := (rdC l).bind fun n => (rdMany rdInd n.1.toNat n.2).bind fun m => rdTab2 a0 a1 cs ([] ++ m.1) m.2
def rdTab (l : List Int) : Option (S70 × List Int) := (rdN l).bind fun a => (rdT a.2).bind fun b => (rdC b.2).bind fun n => (rdMany rdCol n.1.toNat n.2).bind fun m => rdTab1 a.1 b.1 ([] ++ m.1) m.2
def TabPost (g : Nat) (w : World) (o : Option (S70 × List Int)) (e : Ending) (w' : World) : Prop := match o with
  | some (x, r) => ∃ A2 c2 A3 c3, e = .returned (.agg #[.int .i64 x.f0, .string x.f1, .slice A2 x.f2.length c2, .slice A3 x.f3.length c3, .int .i64 x.f4]) ∧ RB w' g r ∧ Rd g w w' ∧ k75.R 75 w' w.heap.size (fun _ => True) (.slice A2 x.f2.length c2) x.f2 ∧ k98.R 98 w' w.heap.size (fun _ => True) (.slice A3 x.f3.length c3) x.f3
  | none => e = .panicked failC ∧ Rd g w w'
theorem IndPost.some {g : Nat} {w w' : World} {x : S98} {r : List Int} {e : Ending} (h : IndPost g w (some (x, r)) e w') : ∃ A c, e = .returned (.agg #[.int .i64 x.f0, .string x.f1, .slice A x.f2.length c, .bool x.f3, .int .i64 x.f4]) ∧ RB w' g r ∧ Rd g w w' ∧ (Kd.int .i64).R 3 w' w.heap.size (fun _ => True) (.slice A x.f2.length c) x.f2 := h
theorem IndPost.none {g : Nat} {w w' : World} {e : Ending} (h : IndPost g w none e w') : e = .panicked failC ∧ Rd g w w' := h
theorem R75_keep {W W1 : World} {base : Nat} {ok2 ok3 : Nat → Prop} {v2 v3 : Value} {xs2 : List S75} {xs3 : List S98} (h2 : k75.R 75 W base ok2 v2 xs2) (h3 : k98.R 98 W base ok3 v3 xs3) (hg : W.grownBy W1 v3.ownBlock) : k75.R 75 W1 base ok2 v2 xs2 :=
  Kd.R_grown2 h2 rfl hg (fun k hk he => by
    obtain ⟨i2, o2⟩ := Kd.R_own h2
    obtain ⟨i3, o3⟩ := Kd.R_own h3
    obtain ⟨c2, e2⟩ := own_typed o2 k he.symm
    obtain ⟨c3, e3⟩ := own_typed o3 k hk
    rw [e2] at e3
    injection e3 with e3
    injection e3 with _ e3 _
    exact absurd e3 (by decide))
set_option maxRecDepth 100000 in
set_option maxHeartbeats 16000000 in
theorem rtab_rd (g : Nat) (l : List Int) (w : World) (h : RB w g l) : Calls Tryd.prog 91 #[.pointer (some ⟨g, 0, none⟩)] w (TabPost g w (rdTab l)) := by
  have HS := Aside0.mk (ZSt.new h 70 #[.int .i64 0, .string ⟨#[]⟩, .slice none 0 0, .slice none 0 0, .int .i64 0])
  obtain ⟨R, hR⟩ : ∃ R, rdTab l = R := ⟨_, rfl⟩
  rw [hR]
  have HR := Lib.hid hR
  unfold rdTab at HR
  clear hR h
  go_enter Tryd.func91, Tryd.ntmps91
  go_wp2_with fail
  refine (rnumr_calls g l _ HS.out.rb).mono fun e w1 h => ?_
  have hR := HR.out
  cases hK : rdN l with
  | none =>
    rw [hK] at h hR
    obtain rfl : none = R := hR
    obtain ⟨rfl, hrd⟩ := h.none
    exact ⟨rfl, rfl, HS.out.rd.trans hrd⟩
  | some q =>
    obtain ⟨a0, l1⟩ := q
    rw [hK] at h hR
    simp only [Option.bind_some] at hR
    obtain ⟨rfl, hrb, hrd⟩ := h.some
    have n_ := Aside0.mk (HS.out.call hrb hrd)
    have HR1 := Lib.hid hR
    clear hK h hR HR HS hrb hrd
    have HS := n_
    have HR := HR1
    clear n_ HR1
    go_wp2_with fail
    refine (rtextr_calls g l1 _ HS.out.rb).mono fun e w2 h => ?_
    have hR := HR.out
    cases hK : rdT l1 with
    | none =>
      rw [hK] at h hR
      obtain rfl : none = R := hR
      obtain ⟨rfl, hrd⟩ := h.none
      exact ⟨rfl, rfl, HS.out.rd.trans hrd⟩
    | some q =>
      obtain ⟨a1, l2⟩ := q
      rw [hK] at h hR
      simp only [Option.bind_some] at hR
      obtain ⟨rfl, hrb, hrd⟩ := h.some
      have n_ := Aside0.mk (HS.out.call hrb hrd)
      have HR1 := Lib.hid hR
      clear hK h hR HR HS hrb hrd
      have HS := n_
      have HR := HR1
      clear n_ HR1
      have n_ := Aside0.mk (HS.out.box #[.int .i64 a0, .string a1, .slice none 0 0, .slice none 0 0, .int .i64 0])
      clear HS
      have HS := n_
      clear n_
      go_wp2_with fail
      refine (rcount_calls g l2 _ HS.out.rb).mono fun e w3 h => ?_
      have hR := HR.out
      cases hK : rdC l2 with
      | none =>
        rw [hK] at h hR
        obtain rfl : none = R := hR
        obtain ⟨rfl, hrd⟩ := h.none
        exact ⟨rfl, rfl, HS.out.rd.trans hrd⟩
      | some q =>
        obtain ⟨n, l3⟩ := q
        rw [hK] at h hR
        simp only [Option.bind_some] at hR
        obtain ⟨rfl, hrb, hrd⟩ := h.some
        have n_ := Aside0.mk (HS.out.call hrb hrd)
        have HR1 := Lib.hid hR
        have hn := rdC_le hK
        clear hK h hR HR HS hrb hrd
        have HS := n_
        have HR := HR1
        clear n_ HR1
        obtain ⟨k0, rfl⟩ : ∃ k : Nat, n = k := ⟨n.toNat, by omega⟩
        rw [Int.toNat_natCast] at HR
        have HROW := Aside0.mk (Kd.R_nil k75 75 w3 w.heap.size (fun _ => True))
        have hk0 : k0 ≤ 30000 := by have h9 : l3.length ≤ 30000 := HS.out.rb.2.1; have h8 : (k0 : Int) ≤ (l3.length : Int) := hn.2; omega
        clear hn
        go_wp2_with fail
        go_loopg [4] k0 (fun gg u4 wr => ∃ (k : Nat) (lr : List Int) (cs : List S75) (v : Value), k ≤ k0 ∧ k ≤ gg ∧ u4 = .int .i64 k ∧ cs.length + k = k0 ∧ Aside0 (BoxSt 70 g w wr w2.heap.size lr #[.int .i64 0, .string ⟨#[]⟩, .slice none 0 0, .slice none 0 0, .int .i64 0] #[.int .i64 a0, .string a1, v, .slice none 0 0, .int .i64 0]) ∧ Aside0 (k75.R 75 wr w.heap.size (fun _ => True) v cs) ∧ Aside0 (((rdMany rdCol k lr).bind fun m => rdTab1 a0 a1 (cs ++ m.1) m.2) = R))
        case atStart => exact ⟨k0, l3, [], .slice none 0 0, Nat.le_refl _, Nat.le_refl _, rfl, by simp, HS, HROW, ⟨HR.out⟩⟩
        case round =>
          obtain ⟨k, lr, cs, v, hk, hgk, rfl, hxk, HS2, HV, HRR⟩ := hrel
          clear HS HROW HR
          have HS := HS2
          clear HS2
          cases k with
          | succ k =>
            have hlen : (cs.length + 1) * 88 ≤ 140737488355328 := by omega
            have c2_ := H.blk_cell (j := 2) (v := v) HS.out.cb rfl
            have f2_ := blk_frozen HS.out.cb 2
            go_wp2_with fail
            go_region_law (first
              | (go_simp; go_at_call 138; refine (rcol_rd g lr _ (HS.out.rb.below (below_drew (Below.refl _ _)))).mono fun e w' h => ?_; rcases hK : rdCol lr with _ | ⟨a, l'⟩; (rw [hK] at h; have hR := HRR.out; rw [many_none hK] at hR; subst hR; obtain ⟨rfl, hrd⟩ := h.none; exact ⟨rfl, rfl, (HS.out.rd.trans (Rd.of_below (below_drew (Below.refl _ _)) (Nat.le_of_lt HS.out.rb.lt))).trans hrd⟩); (rw [hK] at h; have hR := HRR.out; rw [many_step hK] at hR; have HR2 := Aside0.mk hR; obtain ⟨he, hrb, hrd⟩ := h.some; have he' : e = .returned (.agg #[.int .i64 a.f0, .string a.f1, .int .i64 a.f2, .int .i64 a.f3, .int .i64 a.f4, .int .i64 a.f5.f0, .int .i64 a.f5.f1, .int .u64 a.f5.f2, .string a.f5.f3]) := he; subst he'; clear he; have HS3 := Aside0.mk ((HS.out.call (HS.out.rb.below (below_drew (Below.refl _ _))) (Rd.of_below (below_drew (Below.refl _ _)) (Nat.le_of_lt HS.out.rb.lt))).call hrb hrd); have HV3 := Aside0.mk (R_rd HV.out HS.out.lt ((Rd.of_below (below_drew (Below.refl _ _)) (Nat.le_of_lt HS.out.rb.lt)).trans hrd)); have c3_ := H.blk_cell (j := 2) (v := v) HS3.out.cb rfl; have hl3 := lt_of_block HS3.out.cb; clear h hrb hrd hK hR))
              | (refine Kd.R_append_step k75 (w0 := w') w.heap.size (by rfl) (.tmp 18) (.tmp 21) 67 75 (.agg #[(.int .i64 0), (.string ⟨#[]⟩), (.int .i64 0), (.int .i64 0), (.int .i64 0), (.int .i64 0), (.int .i64 0), (.int .u64 0), (.string ⟨#[]⟩)]) 88 rfl Tryd.underlying67 info75 rfl (by decide) (by omega) v cs a [.int .i64 a.f0, .string a.f1, .int .i64 a.f2, .int .i64 a.f3, .int .i64 a.f4, .int .i64 a.f5.f0, .int .i64 a.f5.f1, .int .u64 a.f5.f2, .string a.f5.f3] (fun _ => True) (fun _ => False) rfl rfl (k75_mkM _ _ _ _) (fun _ hk => hk.elim) (fun _ _ => trivial) HV3.out (Below.refl _ _) HS3.out.rd.size hlen ?_; intro v1 w1' ho hb hg hat; obtain ⟨A1, cc1, e1⟩ := Kd.R_slice ho; rw [show (cs ++ [a]).length = cs.length + 1 by simp] at e1; subst e1; have HS4 := Aside0.mk (HS3.out.grown hb (Below.refl _ _) hg (fun k zz hk => Kd.R_ne HV3.out hk (by decide))); have HV4 := Aside0.mk ho; have c4_ := H.blk_cell (j := 2) (v := v) HS4.out.cb rfl; have f4_ := blk_frozen HS4.out.cb 2; clear ho hb hg hat))
            all_goals
              have HS5 := Aside0.mk (HS4.out.put (cs' := #[.int .i64 a0, .string a1, .slice A1 (cs.length + 1) cc1, .slice none 0 0, .int .i64 0]) 2 (.slice A1 (cs.length + 1) cc1) rfl)
              have HV5 := Aside0.mk (Kd.R_set HV4.out HS4.out.cb (by decide) 2 (.slice A1 (cs.length + 1) cc1))
              clear HS HV HS3 HV3 HS4 HV4 c2_ f2_ c3_ f4_ c4_ hl3
              have hl1 : (cs ++ [a]).length + k = k0 := by rw [List.length_append, List.length_singleton]; omega
              go_wp2
              go_roundg k
              case measure => omega
              case rel => exact ⟨k, _, _, _, by omega, by omega, by go_num, hl1, HS5, HV5, HR2⟩
          | zero =>
            have hkz : ¬ (0 : Int) < ((0 : Nat) : Int) := by omega
            have HR := Lib.hid ((many_end cs (rdTab1 a0 a1)).symm.trans HRR.out)
            unfold rdTab1 at HR
            clear HRR hk hgk hxk
            obtain ⟨A2, c2, e1⟩ := Kd.R_slice HV.out
            subst e1
            have HV2 := HV
            clear HV hk0
            obtain ⟨wo, hwo⟩ : ∃ wo : World, wo = wr := ⟨_, rfl⟩
            subst hwo
            go_wp2_with fail
            refine (rcount_calls g lr _ HS.out.rb).mono fun e w4 h => ?_
            have hR := HR.out
            cases hK : rdC lr with
            | none =>
              rw [hK] at h hR
              obtain rfl : none = R := hR
              obtain ⟨rfl, hrd⟩ := h.none
              exact ⟨rfl, rfl, HS.out.rd.trans hrd⟩
            | some q =>
              obtain ⟨n, l4⟩ := q
              rw [hK] at h hR
              simp only [Option.bind_some] at hR
              obtain ⟨rfl, hrb, hrd⟩ := h.some
              have n_ := Aside0.mk (HS.out.call hrb hrd)
              have HR1 := Lib.hid hR
              have hn := rdC_le hK
              have HV6 := Aside0.mk (R_rd HV2.out HS.out.lt hrd)
              clear HV2
              have HV2 := HV6
              clear HV6
              clear hK h hR HR HS hrb hrd
              have HS := n_
              have HR := HR1
              clear n_ HR1
              obtain ⟨k1, rfl⟩ : ∃ k : Nat, n = k := ⟨n.toNat, by omega⟩
              rw [Int.toNat_natCast] at HR
              have HROW := Aside0.mk (Kd.R_nil k98 98 w4 w.heap.size (fun _ => True))
              have hk0 : k1 ≤ 30000 := by have h9 : l4.length ≤ 30000 := HS.out.rb.2.1; have h8 : (k1 : Int) ≤ (l4.length : Int) := hn.2; omega
              clear hn
              go_wp2_with fail
              go_loopg [5] k1 (fun gg u4 wr => ∃ (k : Nat) (lr : List Int) (xs : List S98) (v : Value), k ≤ k1 ∧ k ≤ gg ∧ u4 = .int .i64 k ∧ xs.length + k = k1 ∧ Aside0 (BoxSt 70 g w wr w2.heap.size lr #[.int .i64 0, .string ⟨#[]⟩, .slice none 0 0, .slice none 0 0, .int .i64 0] #[.int .i64 a0, .string a1, .slice A2 cs.length c2, v, .int .i64 0]) ∧ Aside0 (k98.R 98 wr w.heap.size (fun _ => True) v xs) ∧ Aside0 (((rdMany rdInd k lr).bind fun m => rdTab2 a0 a1 cs (xs ++ m.1) m.2) = R) ∧ Aside0 (k75.R 75 wr w.heap.size (fun _ => True) (.slice A2 cs.length c2) cs))
              case atStart => exact ⟨k1, l4, [], .slice none 0 0, Nat.le_refl _, Nat.le_refl _, rfl, by simp, HS, HROW, ⟨HR.out⟩, HV2⟩
              case round =>
                obtain ⟨k, lr, xs, v, hk, hgk, rfl, hxk, HS2, HV, HRR, HC2⟩ := hrel
                clear HS HROW HR HV2
                have HS := HS2
                clear HS2
                have HV2 := HC2
                clear HC2
                cases k with
                | succ k =>
                  have hlen : (xs.length + 1) * 64 ≤ 140737488355328 := by omega
                  have c2_ := H.blk_cell (j := 3) (v := v) HS.out.cb rfl
                  have f2_ := blk_frozen HS.out.cb 3
                  go_wp2_with fail
                  go_region_law (first
                    | (go_simp; go_at_call 139; refine (rind_rd g lr _ (HS.out.rb.below (below_drew (Below.refl _ _)))).mono fun e w' h => ?_; rcases hK : rdInd lr with _ | ⟨a, l'⟩; (rw [hK] at h; have hR := HRR.out; rw [many_none hK] at hR; subst hR; obtain ⟨rfl, hrd⟩ := IndPost.none h; exact ⟨rfl, rfl, (HS.out.rd.trans (Rd.of_below (below_drew (Below.refl _ _)) (Nat.le_of_lt HS.out.rb.lt))).trans hrd⟩); (rw [hK] at h; have hR := HRR.out; rw [many_step hK] at hR; have HR2 := Aside0.mk hR; obtain ⟨B2, d2, he, hrb, hrd, hrow⟩ := IndPost.some h; subst he; have HROW3 := Aside0.mk (Kd.R_lower (Kd.R_mono (Kd.R_bound hrow) (fun k hk => hk.2.1)) HS.out.rd.size : (Kd.int .i64).R 3 w' w.heap.size (fun k => wr.heap.size ≤ k) (.slice B2 a.f2.length d2) a.f2); clear hrow; have HS3 := Aside0.mk ((HS.out.call (HS.out.rb.below (below_drew (Below.refl _ _))) (Rd.of_below (below_drew (Below.refl _ _)) (Nat.le_of_lt HS.out.rb.lt))).call hrb hrd); have HV3 := Aside0.mk (R_rd HV.out HS.out.lt ((Rd.of_below (below_drew (Below.refl _ _)) (Nat.le_of_lt HS.out.rb.lt)).trans hrd)); have HV23 := Aside0.mk (R_rd HV2.out HS.out.lt ((Rd.of_below (below_drew (Below.refl _ _)) (Nat.le_of_lt HS.out.rb.lt)).trans hrd)); have c3_ := H.blk_cell (j := 3) (v := v) HS3.out.cb rfl; have hl3 := lt_of_block HS3.out.cb; clear h hrb hrd hK hR))
                    | (refine Kd.R_append_step k98 (w0 := w') w.heap.size (by rfl) (.tmp 31) (.tmp 34) 68 98 (.agg #[(.int .i64 0), (.string ⟨#[]⟩), (.slice none 0 0), (.bool false), (.int .i64 0)]) 64 rfl Tryd.underlying68 info98 rfl (by decide) (by omega) v xs a [.int .i64 a.f0, .string a.f1, .slice B2 a.f2.length d2, .bool a.f3, .int .i64 a.f4] (fun _ => True) (fun k => wr.heap.size ≤ k) rfl rfl (k98_mkM _ _ _ a HROW3.out) (fun k hk => ⟨trivial, fun he => absurd (Kd.R_lt HV.out k he.symm) (by omega)⟩) (fun _ _ => trivial) HV3.out (Below.refl _ _) HS3.out.rd.size hlen ?_; intro v1 w1' ho hb hg hat; obtain ⟨A1, cc1, e1⟩ := Kd.R_slice ho; rw [show (xs ++ [a]).length = xs.length + 1 by simp] at e1; subst e1; have HV24 := Aside0.mk (R75_keep HV23.out HV3.out hg); have HS4 := Aside0.mk (HS3.out.grown hb (Below.refl _ _) hg (fun k zz hk => Kd.R_ne HV3.out hk (by decide))); have HV4 := Aside0.mk ho; have c4_ := H.blk_cell (j := 3) (v := v) HS4.out.cb rfl; have f4_ := blk_frozen HS4.out.cb 3; clear ho hb hg hat))
                  all_goals
                    have HS5 := Aside0.mk (HS4.out.put (cs' := #[.int .i64 a0, .string a1, .slice A2 cs.length c2, .slice A1 (xs.length + 1) cc1, .int .i64 0]) 3 (.slice A1 (xs.length + 1) cc1) rfl)
                    have HV5 := Aside0.mk (Kd.R_set HV4.out HS4.out.cb (by decide) 3 (.slice A1 (xs.length + 1) cc1))
                    have HV25 := Aside0.mk (Kd.R_set HV24.out HS4.out.cb (by decide) 3 (.slice A1 (xs.length + 1) cc1))
                    clear HS HV HS3 HV3 HS4 HV4 c2_ f2_ c3_ f4_ c4_ hl3
                    have hl1 : (xs ++ [a]).length + k = k1 := by rw [List.length_append, List.length_singleton]; omega
                    go_wp2
                    go_roundg k
                    case measure => omega
                    case rel => exact ⟨k, _, _, _, by omega, by omega, by go_num, hl1, HS5, HV5, HR2, HV25⟩
                | zero =>
                  have hkz : ¬ (0 : Int) < ((0 : Nat) : Int) := by omega
                  have HR := Lib.hid ((many_end xs (rdTab2 a0 a1 cs)).symm.trans HRR.out)
                  unfold rdTab2 at HR
                  clear HRR hk hgk hxk
                  obtain ⟨A3, c3, e1⟩ := Kd.R_slice HV.out
                  subst e1
                  go_wp2_with fail
                  refine (rnumr_calls g lr _ HS.out.rb).mono fun e w6 h => ?_
                  have hR := HR.out
                  cases hK : rdN lr with
                  | none =>
                    rw [hK] at h hR
                    obtain rfl : none = R := hR
                    obtain ⟨rfl, hrd⟩ := h.none
                    exact ⟨rfl, rfl, HS.out.rd.trans hrd⟩
                  | some q =>
                    obtain ⟨nx, l6⟩ := q
                    rw [hK] at h hR
                    simp only [Option.bind_some] at hR
                    obtain ⟨rfl, hrb, hrd⟩ := h.some
                    have n_ := Aside0.mk (HS.out.call hrb hrd)
                    have HR1 := Lib.hid hR
                    have HV6 := Aside0.mk (R_rd HV2.out HS.out.lt hrd)
                    have HV7 := Aside0.mk (R_rd HV.out HS.out.lt hrd)
                    clear HV2 HV
                    have HV2 := HV6
                    have HV := HV7
                    clear HV6 HV7
                    clear hK h hR HR HS hrb hrd
                    have HS := n_
                    have HR := HR1
                    clear n_ HR1
                    have c0_ := H.blk_cell (j := 0) (v := .int .i64 a0) HS.out.cb rfl
                    have c1_ := H.blk_cell (j := 1) (v := .string a1) HS.out.cb rfl
                    have c2_ := H.blk_cell (j := 2) (v := .slice A2 cs.length c2) HS.out.cb rfl
                    have c3_ := H.blk_cell (j := 3) (v := .slice A3 xs.length c3) HS.out.cb rfl
                    have c4_ := H.blk_cell (j := 4) (v := .int .i64 0) HS.out.cb rfl
                    have f4_ := blk_frozen HS.out.cb 4
                    have z0 := H.blk_cell (j := 0) (v := .int .i64 0) HS.out.zb rfl
                    have g0 := blk_frozen HS.out.zb 0
                    have z1 := H.blk_cell (j := 1) (v := .string ⟨#[]⟩) HS.out.zb rfl
                    have g1 := blk_frozen HS.out.zb 1
                    have z2 := H.blk_cell (j := 2) (v := .slice none 0 0) HS.out.zb rfl
                    have g2 := blk_frozen HS.out.zb 2
                    have z3 := H.blk_cell (j := 3) (v := .slice none 0 0) HS.out.zb rfl
                    have g3 := blk_frozen HS.out.zb 3
                    have z4 := H.blk_cell (j := 4) (v := .int .i64 0) HS.out.zb rfl
                    have g4 := blk_frozen HS.out.zb 4
                    have hne : w.heap.size ≠ w2.heap.size := Nat.ne_of_lt HS.out.hB
                    have hne2 : w2.heap.size ≠ w.heap.size := (Nat.ne_of_lt HS.out.hB).symm
                    obtain rfl : some _ = R := HR.out
                    have HV8 := HV2
                    have HV9 := HV
                    have HV8 := Aside0.mk (Kd.R_set HV8.out HS.out.cb (by decide) 4 (.int .i64 nx))
                    have HV9 := Aside0.mk (Kd.R_set HV9.out HS.out.cb (by decide) 4 (.int .i64 nx))
                    have HZ := Aside0.mk (HS.out.put (cs' := #[.int .i64 a0, .string a1, .slice A2 cs.length c2, .slice A3 xs.length c3, .int .i64 nx]) 4 (.int .i64 nx) rfl).z
                    go_wp2
                    have HV8 := Aside0.mk (Kd.R_set HV8.out HZ.out.zb (by decide) 0 (.int .i64 a0))
                    have HV9 := Aside0.mk (Kd.R_set HV9.out HZ.out.zb (by decide) 0 (.int .i64 a0))
                    have HZ := Aside0.mk (HZ.out.put (cs := #[.int .i64 a0, .string ⟨#[]⟩, .slice none 0 0, .slice none 0 0, .int .i64 0]) 0 (.int .i64 a0) rfl)
                    have HV8 := Aside0.mk (Kd.R_set HV8.out HZ.out.zb (by decide) 1 (.string a1))
                    have HV9 := Aside0.mk (Kd.R_set HV9.out HZ.out.zb (by decide) 1 (.string a1))
                    have HZ := Aside0.mk (HZ.out.put (cs := #[.int .i64 a0, .string a1, .slice none 0 0, .slice none 0 0, .int .i64 0]) 1 (.string a1) rfl)
                    have HV8 := Aside0.mk (Kd.R_set HV8.out HZ.out.zb (by decide) 2 (.slice A2 cs.length c2))
                    have HV9 := Aside0.mk (Kd.R_set HV9.out HZ.out.zb (by decide) 2 (.slice A2 cs.length c2))
                    have HZ := Aside0.mk (HZ.out.put (cs := #[.int .i64 a0, .string a1, .slice A2 cs.length c2, .slice none 0 0, .int .i64 0]) 2 (.slice A2 cs.length c2) rfl)
                    have HV8 := Aside0.mk (Kd.R_set HV8.out HZ.out.zb (by decide) 3 (.slice A3 xs.length c3))
                    have HV9 := Aside0.mk (Kd.R_set HV9.out HZ.out.zb (by decide) 3 (.slice A3 xs.length c3))
                    have HZ := Aside0.mk (HZ.out.put (cs := #[.int .i64 a0, .string a1, .slice A2 cs.length c2, .slice A3 xs.length c3, .int .i64 0]) 3 (.slice A3 xs.length c3) rfl)
                    have HV8 := Aside0.mk (Kd.R_set HV8.out HZ.out.zb (by decide) 4 (.int .i64 nx))
                    have HV9 := Aside0.mk (Kd.R_set HV9.out HZ.out.zb (by decide) 4 (.int .i64 nx))
                    have HZ := Aside0.mk (HZ.out.put (cs := #[.int .i64 a0, .string a1, .slice A2 cs.length c2, .slice A3 xs.length c3, .int .i64 nx]) 4 (.int .i64 nx) rfl)
                    have hz := HZ.out
                    have hv := HV8.out
                    have hv2 := HV9.out
                    generalize ((((((w6.setCell ⟨w2.heap.size, 4, none⟩ (.int .i64 nx)).setCell ⟨w.heap.size, 0, none⟩ (.int .i64 a0)).setCell ⟨w.heap.size, 1, none⟩ (.string a1)).setCell ⟨w.heap.size, 2, none⟩ (.slice A2 cs.length c2)).setCell ⟨w.heap.size, 3, none⟩ (.slice A3 xs.length c3)).setCell ⟨w.heap.size, 4, none⟩ (.int .i64 nx)) = w0 at hz hv hv2 ⊢
                    clear HZ HS hne hne2 HV HV2 HV8 HV9 f4_ c0_ z0 g0 c1_ z1 g1 c2_ z2 g2 c3_ z3 g3 c4_ z4 g4
                    have u0 := H.blk_cell (j := 0) (v := .int .i64 a0) hz.zb rfl
                    have u1 := H.blk_cell (j := 1) (v := .string a1) hz.zb rfl
                    have u2 := H.blk_cell (j := 2) (v := .slice A2 cs.length c2) hz.zb rfl
                    have u3 := H.blk_cell (j := 3) (v := .slice A3 xs.length c3) hz.zb rfl
                    have u4 := H.blk_cell (j := 4) (v := .int .i64 nx) hz.zb rfl
                    exact bodyPost_ret (v := .agg #[.int .i64 a0, .string a1, .slice A2 cs.length c2, .slice A3 xs.length c3, .int .i64 nx]) (by simp [results, Tryd.results91, u0, u1, u2, u3, u4, go_sem]) rfl ⟨A2, c2, A3, c3, rfl, hz.rb, hz.rd, hv, hv2⟩
end Go.Proofs.YtjgomlcdmpcoaaaDoor.H
namespace Go.Proofs.YtjgomlcdmpcoaaaDoor.H
open Go.RowKit Go.Proofs.YtjgomlcdmpcoaaaDoorW.PrintWords Go.Proofs.YtjgomlcdmpcoaaaDoorW.PrintLast Go.Proofs.YtjgomlcdmpcoaaaDoorW.PrintMore
open Go.Proofs.YtjgomlcdmpcoaaaDoor.D Go.Proofs.YtjgomlcdmpcoaaaDoor
set_option linter.unusedVariables false
set_option linter.unusedSimpArgs false
set_option maxRecDepth 100000 in
theorem gcatch_pan (b2 b3 : Nat) (x0 x1 x2 x3 : Value) (w : World) (h2 : w.heap[b2]? = some (.cells #[x0, x1, x2] 28 (0, 0))) (h3 : w.heap[b3]? = some (.cells #[x3] 30 (0, 0))) (hne : b2 ≠ b3) :
    CallsD Tryd.prog 88 #[.pointer (some ⟨b2, 0, none⟩), .pointer (some ⟨b3, 0, none⟩)] (.panicking failC) w fun e u' w' =>
      e = .returned (.tuple #[]) ∧ u' = .panicking [{ v := .iface 168 (.agg #[]), recovered := true }] ∧ w' = (((w.setCell ⟨b2, 0, none⟩ (.int .i64 0)).setCell ⟨b2, 1, none⟩ (.slice none 0 0)).setCell ⟨b2, 2, none⟩ (.int .i64 0)).setCell ⟨b3, 0, none⟩ (.int .i64 3) := by
  have c0 := H.blk_cell (j := 0) (v := x0) h2 rfl
  have c1 := H.blk_cell (j := 1) (v := x1) h2 rfl
  have c2 := H.blk_cell (j := 2) (v := x2) h2 rfl
  have c3 := H.blk_cell (j := 0) (v := x3) h3 rfl
  have f0 := blk_frozen h2 0
  have f1 := blk_frozen h2 1
  have f2 := blk_frozen h2 2
  have f3 := blk_frozen h3 0
  have hne2 : b3 ≠ b2 := Ne.symm hne
  clear h2 h3
  refine callsD_of_wpS Tryd.func88 rfl fun c₀ cs hu => ?_
  apply wpS_seq
  apply wpS_region
  simp [wpOpsS, go_sem, recoverD, hu, failC, Tryd.ntmps88, Exit.thenS]
  refine wpS_cond (t := true) (by simp [Act.eval, Array.replicate]) ?_
  simp only [if_true]
  apply wpS_region
  simp [wpOpsS, go_sem, c0, c1, c2, c3, f0, f1, f2, f3, hne, hne2, bodyPostS, results, Tryd.results88]
set_option maxRecDepth 100000 in
theorem gcatch_idle (p q : Addr) (w : World) :
    CallsD Tryd.prog 88 #[.pointer (some p), .pointer (some q)] .returning w fun e u' w' => e = .returned (.tuple #[]) ∧ u' = .returning ∧ w' = w := by
  refine callsD_of_wpS Tryd.func88 rfl fun c₀ cs hu => ?_
  apply wpS_seq
  apply wpS_region
  simp [wpOpsS, go_sem, recoverD, hu, Tryd.ntmps88, Exit.thenS]
  refine wpS_cond (t := false) (by simp [Act.eval, Array.replicate]) ?_
  simp only [Bool.false_eq_true, if_false]
  refine wpS_of_wp (wp_skip ?_)
  cases c₀
  simp_all [bodyPostS, results, Tryd.results88]
def rdSch1 (v : Int) (ts : List S70) (l : List Int) : Option ((Int × List S70 × Int) × List Int) := (rdN l).bind fun x => some ((v, ts, x.1), x.2)
def rdSch (l : List Int) : Option ((Int × List S70 × Int) × List Int) := (rdN l).bind fun a => (rdC a.2).bind fun n => (rdMany rdTab n.1.toNat n.2).bind fun m => rdSch1 a.1 ([] ++ m.1) m.2
def refused : Ending := .returned (.tuple #[.agg #[.int .i64 0, .slice none 0 0, .int .i64 0], .int .i64 3])
def GPost (s : ByteArray) (w : World) (o : Option ((Int × List S70 × Int) × List Int)) (e : Ending) (w' : World) : Prop := Below w.heap.size w w' ∧ match o with
  | some ((v, ts, nx), _) => (putE v ts nx = 0 ∧ putS v ts nx = s ∧ ∃ A c, e = .returned (.tuple #[.agg #[.int .i64 v, .slice A ts.length c, .int .i64 nx], .int .i64 0]) ∧ k70.R 70 w' w.heap.size (fun _ => True) (.slice A ts.length c) ts) ∨ (¬ (putE v ts nx = 0 ∧ putS v ts nx = s) ∧ e = refused)
  | none => e = refused
theorem TabPost.some {g : Nat} {w w' : World} {x : S70} {r : List Int} {e : Ending} (h : TabPost g w (some (x, r)) e w') : ∃ A2 c2 A3 c3, e = .returned (.agg #[.int .i64 x.f0, .string x.f1, .slice A2 x.f2.length c2, .slice A3 x.f3.length c3, .int .i64 x.f4]) ∧ RB w' g r ∧ Rd g w w' ∧ k75.R 75 w' w.heap.size (fun _ => True) (.slice A2 x.f2.length c2) x.f2 ∧ k98.R 98 w' w.heap.size (fun _ => True) (.slice A3 x.f3.length c3) x.f3 := h
theorem TabPost.none {g : Nat} {w w' : World} {e : Ending} (h : TabPost g w none e w') : e = .panicked failC ∧ Rd g w w' := h
structure GSt (w W : World) (g : Nat) (l : List Int) (a b c : Value) : Prop where
  hg : w.heap.size + 1 < g
  rb : RB W g l
  below : Below w.heap.size w W
  z2 : W.heap[w.heap.size]? = some (.cells #[a, b, c] 28 (0, 0))
  z3 : W.heap[w.heap.size + 1]? = some (.cells #[.int .i64 0] 30 (0, 0))
section
variable {w W W' W0 : World} {g : Nat} {l l' : List Int} {a b c a' b' c' : Value}
theorem GSt.call (h : GSt w W g l a b c) (hrb : RB W' g l') (hrd : Rd g W W') : GSt w W' g l' a b c :=
  ⟨h.hg, hrb, h.below.trans (hrd.below.mono (by have := h.hg; omega)), hrd.blk h.z2 (by have := h.hg; omega), hrd.blk h.z3 (by have := h.hg; omega)⟩
theorem GSt.pan (h : GSt w W g l a b c) (hrd : Rd g W W') : Below w.heap.size w W' ∧ W'.heap[w.heap.size]? = some (.cells #[a, b, c] 28 (0, 0)) ∧ W'.heap[w.heap.size + 1]? = some (.cells #[.int .i64 0] 30 (0, 0)) :=
  ⟨h.below.trans (hrd.below.mono (by have := h.hg; omega)), hrd.blk h.z2 (by have := h.hg; omega), hrd.blk h.z3 (by have := h.hg; omega)⟩
theorem GSt.put (h : GSt w W g l a b c) (i : Nat) (v : Value) (e : #[a, b, c].setIfInBounds i v = #[a', b', c']) : GSt w (W.setCell ⟨w.heap.size, i, none⟩ v) g l a' b' c' :=
  ⟨h.hg, ⟨h.rb.1, h.rb.2.1, blk_far h.rb.2.2 (p := ⟨w.heap.size, i, none⟩) (by have := h.hg; show g ≠ w.heap.size; omega) v⟩, h.below.setCell (p := ⟨w.heap.size, i, none⟩) (Nat.le_refl _) v, blk_put h.z2 i v e, blk_far h.z3 (p := ⟨w.heap.size, i, none⟩) (by show w.heap.size + 1 ≠ w.heap.size; omega) v⟩
theorem GSt.grown {row : Option Nat} (h : GSt w W g l a b c) (hb : Below (g + 1) W W') (ha : Below W.heap.size W W0) (hr : W0.grownBy W' row) : GSt w W' g l a b c :=
  ⟨h.hg, ⟨h.rb.1, h.rb.2.1, (hb.block g (by omega)).trans h.rb.2.2⟩, h.below.trans (hb.mono (by have := h.hg; omega)), (hb.block _ (by have := h.hg; omega)).trans h.z2, (hb.block _ (by have := h.hg; omega)).trans h.z3⟩
end
theorem R_rdB {α : Type} {d : Kd α} {e g : Nat} {w w1 : World} {ok : Nat → Prop} {v : Value} {xs : List α} (h : d.R e w (g + 1) ok v xs) (hrd : Rd g w w1) : d.R e w1 (g + 1) ok v xs :=
  Kd.R_mono (Kd.R_move (Kd.R_bound h) (fun k hk => hrd.block k hk.2.2.1 (by have := hk.2.1; omega))) (fun _ hk => hk.1)
theorem leave_pan {s : ByteArray} {w W : World} {a b c d : Value} {tmps : Array Value} (h : Below w.heap.size w W ∧ W.heap[w.heap.size]? = some (.cells #[a, b, c] 28 (0, 0)) ∧ W.heap[w.heap.size + 1]? = some (.cells #[d] 30 (0, 0))) (h2 : tmps[2]? = some (.pointer (some ⟨w.heap.size, 0, none⟩))) (h3 : tmps[3]? = some (.pointer (some ⟨w.heap.size + 1, 0, none⟩))) :
    Leaves Tryd.prog Tryd.f44 tmps (GPost s w none) [{ target := .fn (.func 88) #[.pointer (some ⟨w.heap.size, 0, none⟩), .pointer (some ⟨w.heap.size + 1, 0, none⟩)], args := #[] }] (.panicking failC) W := by
  refine leaves_cons (f := 88) (args := #[.pointer (some ⟨w.heap.size, 0, none⟩), .pointer (some ⟨w.heap.size + 1, 0, none⟩)]) (by simp) (by simp [go_sem]) ?_
  refine (gcatch_pan w.heap.size (w.heap.size + 1) _ _ _ _ W h.2.1 h.2.2 (by omega)).mono ?_
  rintro e u' w'' ⟨rfl, rfl, rfl⟩
  have z2 := blk_far (blk_put (cs' := #[.int .i64 0, .slice none 0 0, .int .i64 0]) (blk_put (cs' := #[.int .i64 0, .slice none 0 0, c]) (blk_put (cs' := #[.int .i64 0, b, c]) h.2.1 0 (.int .i64 0) rfl) 1 (.slice none 0 0) rfl) 2 (.int .i64 0) rfl) (p := ⟨w.heap.size + 1, 0, none⟩) (by show w.heap.size ≠ w.heap.size + 1; omega) (.int .i64 3)
  have z3 := blk_put (cs' := #[.int .i64 3]) (blk_far (blk_far (blk_far h.2.2 (p := ⟨w.heap.size, 0, none⟩) (by show w.heap.size + 1 ≠ w.heap.size; omega) (.int .i64 0)) (p := ⟨w.heap.size, 1, none⟩) (by show w.heap.size + 1 ≠ w.heap.size; omega) (.slice none 0 0)) (p := ⟨w.heap.size, 2, none⟩) (by show w.heap.size + 1 ≠ w.heap.size; omega) (.int .i64 0)) 0 (.int .i64 3) rfl
  have hb : Below w.heap.size w ((((W.setCell ⟨w.heap.size, 0, none⟩ (.int .i64 0)).setCell ⟨w.heap.size, 1, none⟩ (.slice none 0 0)).setCell ⟨w.heap.size, 2, none⟩ (.int .i64 0)).setCell ⟨w.heap.size + 1, 0, none⟩ (.int .i64 3)) :=
    (((h.1.setCell (p := ⟨w.heap.size, 0, none⟩) (Nat.le_refl _) _).setCell (p := ⟨w.heap.size, 1, none⟩) (Nat.le_refl _) _).setCell (p := ⟨w.heap.size, 2, none⟩) (Nat.le_refl _) _).setCell (p := ⟨w.heap.size + 1, 0, none⟩) (by show w.heap.size ≤ w.heap.size + 1; omega) _
  generalize ((((W.setCell ⟨w.heap.size, 0, none⟩ (.int .i64 0)).setCell ⟨w.heap.size, 1, none⟩ (.slice none 0 0)).setCell ⟨w.heap.size, 2, none⟩ (.int .i64 0)).setCell ⟨w.heap.size + 1, 0, none⟩ (.int .i64 3)) = w3 at z2 z3 hb ⊢
  have a0 := H.blk_cell (j := 0) (v := .int .i64 0) z2 rfl
  have a1 := H.blk_cell (j := 1) (v := .slice none 0 0) z2 rfl
  have a2 := H.blk_cell (j := 2) (v := .int .i64 0) z2 rfl
  have a3 := H.blk_cell (j := 0) (v := .int .i64 3) z3 rfl
  refine ⟨.tuple #[.agg #[.int .i64 0, .slice none 0 0, .int .i64 0], .int .i64 3], ?_, hb, rfl⟩
  simp [results, Tryd.results44, h2, h3, a0, a1, a2, a3, go_sem]
theorem leave_ret {w W : World} {x0 x1 x2 x3 : Value} {R : Ending → World → Prop} {tmps : Array Value} (hz2 : W.heap[w.heap.size]? = some (.cells #[x0, x1, x2] 28 (0, 0))) (hz3 : W.heap[w.heap.size + 1]? = some (.cells #[x3] 30 (0, 0))) (o0 : x0.oneCell' = true) (o1 : x1.oneCell' = true) (o2 : x2.oneCell' = true) (h2 : tmps[2]? = some (.pointer (some ⟨w.heap.size, 0, none⟩))) (h3 : tmps[3]? = some (.pointer (some ⟨w.heap.size + 1, 0, none⟩))) (hR : R (.returned (.tuple #[.agg #[x0, x1, x2], x3])) W) :
    Leaves Tryd.prog Tryd.f44 tmps R [{ target := .fn (.func 88) #[.pointer (some ⟨w.heap.size, 0, none⟩), .pointer (some ⟨w.heap.size + 1, 0, none⟩)], args := #[] }] .returning W := by
  refine leaves_cons (f := 88) (args := #[.pointer (some ⟨w.heap.size, 0, none⟩), .pointer (some ⟨w.heap.size + 1, 0, none⟩)]) (by simp) (by simp [go_sem]) ?_
  refine (gcatch_idle ⟨w.heap.size, 0, none⟩ ⟨w.heap.size + 1, 0, none⟩ W).mono ?_
  rintro e u' w'' ⟨rfl, rfl, rfl⟩
  have a0 := H.blk_cell (j := 0) (v := x0) hz2 rfl
  have a1 := H.blk_cell (j := 1) (v := x1) hz2 rfl
  have a2 := H.blk_cell (j := 2) (v := x2) hz2 rfl
  have a3 := H.blk_cell (j := 0) (v := x3) hz3 rfl
  refine ⟨.tuple #[.agg #[x0, x1, x2], x3], ?_, hR⟩
  simp [results, Tryd.results44, h2, h3, a0, a1, a2, a3, go_sem]
theorem goesQ_ {P : Program} {oi : Oper} {N : Option Tmp} {a : Act} {w : World} {ops : Array Oper} {K : Act → World → Prop} {Q : Exit → Act → World → Prop} {f : FuncId} {fn : Func} {ags : Array Operand} {ts : Array TypeId} (hf : P.funcs[f]? = some fn) (hname : (fn.name == "runtime.NumGoroutine") = false) (hb : fn.body.isSome = true) (args : Array Value)
    (hw : Region.wanted oi (yielded ops a.tmps) = true) (hN : oi.dst = N) (hop : oi.op = .call { callee := .value (.func f), args := ags, argTypes := ts }) (hargs : ags.map a.eval = args)
    (h : Calls P f args w fun e w' => (∃ v, e = .returned v ∧ K (a.put N v) w') ∨ (∃ c, e = .panicked c ∧ Q (.panic c) a w')) : if Region.wanted oi (yielded ops a.tmps) = true then Oper.wp P oi a w K Q else K (a.put N undef) w := by
  rw [if_pos hw]
  subst hN
  have he := enters_ hf hname hb args w
  have hrun : (execOp a.eval oi).run P w = .ok (.enter f args) w := by
    unfold execOp
    simp [hop, resolve, Deferred.ofValue, invoke, Act.eval, hargs, he]
  unfold Oper.wp
  rw [hrun, Oper.upon_enter]
  refine h.mono fun e w'' hh => ?_
  rcases hh with ⟨v, rfl, hk⟩ | ⟨c, rfl, hk⟩
  · exact hk
  · exact hk
theorem leaves_tmps {P : Program} {fn : Func} {t1 t2 : Array Value} {Rr : Ending → World → Prop} (e : results fn t1 = results fn t2) : ∀ (ds : List Deferred) (u : FrameMode) (w : World), Leaves P fn t1 Rr ds u w → Leaves P fn t2 Rr ds u w := by
  intro ds
  induction ds with
  | nil =>
    intro u w h
    cases u with
    | run => exact h
    | returning => unfold Leaves at h ⊢; rw [← e]; exact h
    | panicking c => exact h
  | cons d ds ih =>
    intro u w h
    obtain ⟨h1, fv, cap, f, args, h2, h3, h4⟩ := h
    refine ⟨h1, fv, cap, f, args, h2, h3, h4.mono ?_⟩
    intro e' u' w' hh
    cases e' with
    | returned v => exact ih _ _ hh
    | panicked c => exact ih _ _ hh
    | outgrown => exact hh
theorem bpd_put {d : Nat} {v : Value} (h2 : d ≠ 2) (h3 : d ≠ 3) {Rr : Ending → World → Prop} {c : List PanicEntry} {a : Act} {w : World} (h : bodyPostD Tryd.prog Tryd.f44 Rr (.panic c) (a.put (some d) v) w) : bodyPostD Tryd.prog Tryd.f44 Rr (.panic c) a w := by
  refine leaves_tmps (t1 := (a.put (some d) v).tmps) ?_ _ _ _ h
  have e2 : (a.tmps.setIfInBounds d v)[2]? = a.tmps[2]? := Array.getElem?_setIfInBounds_ne h2
  have e3 : (a.tmps.setIfInBounds d v)[3]? = a.tmps[3]? := Array.getElem?_setIfInBounds_ne h3
  simp [results, Tryd.results44, Act.put, e2, e3]
set_option maxRecDepth 100000 in
set_option maxHeartbeats 16000000 in
theorem dget_read (s : ByteArray) (w : World) (hG : GL w) (hs : s.size ≤ 25000) (h1 : isSeal s) (hwf : ∀ v ts nx r, rdSch (bytesOf (bodyOf s)) = some ((v, ts, nx), r) → ∀ t ∈ ts, TabWf t) : Calls Tryd.prog 44 #[.string s] w (GPost s w (rdSch (bytesOf (bodyOf s)))) := by
  have hc := Lib.hid (show ∀ w, Calls Tryd.prog 86 #[.string s] w fun e w' => e = .returned (.tuple #[.string (bodyOf s), .int .i64 0]) ∧ Below w.heap.size w w' from fun w => sget_ok s w (by unfold maxLen; omega) h1.1 h1.2)
  have hl0 : (bytesOf (bodyOf s)).length ≤ 30000 := by rw [bytesOf_length]; unfold bodyOf; rw [ByteArray.size_extract]; omega
  have hin : InB (bytesOf (bodyOf s)) := fun x hx => by
    unfold bytesOf at hx
    obtain ⟨y, _, rfl⟩ := List.mem_map.1 hx
    have := y.toNat_lt
    omega
  have hst := strOf_bytes (bodyOf s)
  rw [← hst] at hc
  generalize bytesOf (bodyOf s) = l at hc hl0 hin hwf ⊢
  obtain ⟨R, hR⟩ : ∃ R, rdSch l = R := ⟨_, rfl⟩
  rw [hR] at hwf ⊢
  have HR := Lib.hid hR
  unfold rdSch at HR
  have HWF := Lib.hid hwf
  have HG := Aside0.mk hG
  have hmf : ∀ (fn : Fn) (first cap : Array Value) (w : World), (Instr.makeFunc fn first cap).run Tryd.prog w = .ok (.func fn first cap) w := fun _ _ _ _ => rfl
  clear hR hst hG hwf h1
  go_enter_defers Tryd.func44, Tryd.ntmps44
  go_wp2_with fail
  refine (hc.out _).mono ?_
  rintro e w1 ⟨rfl, hb1⟩
  have hx0 := blk_below (heap_alloc_old' _ (Obj.cells #[.int .i64 0] 30) (heap_alloc_new w (Obj.cells #[.int .i64 0, .slice none 0 0, .int .i64 0] 28))) hb1
  have hx1 := blk_below (heap_alloc_new (w.alloc (Obj.cells #[.int .i64 0, .slice none 0 0, .int .i64 0] 28)) (Obj.cells #[.int .i64 0] 30)) hb1
  have hB : Below w.heap.size w w1 := below_then (below_alloc (below_alloc (Below.refl _ _) _) _) (by simp; omega) hb1
  have hz : w.heap.size + 1 < w1.heap.size := by have := hb1.size; simp at this; omega
  rw [show (w.alloc (Obj.cells #[.int .i64 0, .slice none 0 0, .int .i64 0] 28)).heap.size = w.heap.size + 1 by simp] at hx1
  have a3 := H.blk_cell (j := 0) (v := .int .i64 0) hx1 rfl
  have f3 := blk_frozen hx1 0
  have HS := Aside0.mk (show GSt w ((w1.setCell ⟨w.heap.size + 1, 0, none⟩ (.int .i64 0)).alloc (.cells #[.string (strOfNums l)] 128)) w1.heap.size l (.int .i64 0) (.slice none 0 0) (.int .i64 0) from
    have hsz : (w1.setCell ⟨w.heap.size + 1, 0, none⟩ (.int .i64 0)).heap.size = w1.heap.size := by simp [World.setCell]
    have hn := heap_alloc_new (w1.setCell ⟨w.heap.size + 1, 0, none⟩ (.int .i64 0)) (.cells #[.string (strOfNums l)] 128)
    ⟨hz, ⟨hin, hl0, hsz ▸ hn⟩, below_alloc (hB.setCell (p := ⟨w.heap.size + 1, 0, none⟩) (by show w.heap.size ≤ w.heap.size + 1; omega) _) _, blk_alloc (blk_far hx0 (p := ⟨w.heap.size + 1, 0, none⟩) (by show w.heap.size ≠ w.heap.size + 1; omega) _) _, blk_alloc (blk_put hx1 0 (.int .i64 0) rfl) _⟩)
  clear hb1 hx0 hx1 hB hin hl0
  go_wp2_with fail
  refine (rnumr_calls w1.heap.size l _ HS.out.rb).mono fun e w2 h => ?_
  have hR := HR.out
  cases hK : rdN l with
  | none =>
    rw [hK] at h hR
    obtain rfl : none = R := hR
    obtain ⟨rfl, hrd⟩ := h.none
    exact leave_pan (HS.out.pan hrd) rfl rfl
  | some q =>
    obtain ⟨a0, l1⟩ := q
    rw [hK] at h hR
    simp only [Option.bind_some] at hR
    obtain ⟨rfl, hrb, hrd⟩ := h.some
    have n_ := Aside0.mk (HS.out.call hrb hrd)
    have HR1 := Lib.hid hR
    clear hK h hR HR HS hrb hrd
    have HS := n_
    have HR := HR1
    clear n_ HR1
    clear a3 f3
    have c0 := H.blk_cell (j := 0) (v := .int .i64 0) HS.out.z2 rfl
    have f0 := blk_frozen HS.out.z2 0
    go_wp2_with fail
    have n_ := Aside0.mk (HS.out.put 0 (.int .i64 a0) rfl : GSt w _ w1.heap.size _ (.int .i64 a0) (.slice none 0 0) (.int .i64 0))
    clear HS c0 f0
    have HS := n_
    clear n_
    refine (rcount_calls w1.heap.size l1 _ HS.out.rb).mono fun e w3 h => ?_
    have hR := HR.out
    cases hK : rdC l1 with
    | none =>
      rw [hK] at h hR
      obtain rfl : none = R := hR
      obtain ⟨rfl, hrd⟩ := h.none
      exact leave_pan (HS.out.pan hrd) rfl rfl
    | some q =>
      obtain ⟨n, l2⟩ := q
      rw [hK] at h hR
      simp only [Option.bind_some] at hR
      obtain ⟨rfl, hrb, hrd⟩ := h.some
      have n_ := Aside0.mk (HS.out.call hrb hrd)
      have HR1 := Lib.hid hR
      have hn := rdC_le hK
      clear hK h hR HR HS hrb hrd
      have HS := n_
      have HR := HR1
      clear n_ HR1
      obtain ⟨k0, rfl⟩ : ∃ k : Nat, n = k := ⟨n.toNat, by omega⟩
      rw [Int.toNat_natCast] at HR
      have HROW := Aside0.mk (Kd.R_nil k70 70 w3 (w1.heap.size + 1) (fun _ => True))
      have hk0 : k0 ≤ 30000 := by have h9 : l2.length ≤ 30000 := HS.out.rb.2.1; have h8 : (k0 : Int) ≤ (l2.length : Int) := hn.2; omega
      clear hn
      go_wp2_with fail
      go_loopg [6] k0 (fun gg u4 wr => ∃ (k : Nat) (lr : List Int) (ts : List S70) (v : Value), k ≤ k0 ∧ k ≤ gg ∧ u4 = .int .i64 k ∧ ts.length + k = k0 ∧ Aside0 (GSt w wr w1.heap.size lr (.int .i64 a0) v (.int .i64 0)) ∧ Aside0 (k70.R 70 wr (w1.heap.size + 1) (fun _ => True) v ts) ∧ Aside0 (((rdMany rdTab k lr).bind fun m => rdSch1 a0 (ts ++ m.1) m.2) = R))
      case atStart => exact ⟨k0, l2, [], .slice none 0 0, Nat.le_refl _, Nat.le_refl _, rfl, by simp, HS, HROW, ⟨HR.out⟩⟩
      case round =>
        obtain ⟨k, lr, ts, v, hk, hgk, rfl, hxk, HS2, HV, HRR⟩ := hrel
        clear HS HROW HR
        have HS := HS2
        clear HS2
        cases k with
        | succ k =>
          have hlen : (ts.length + 1) * 80 ≤ 140737488355328 := by omega
          have c2_ := H.blk_cell (j := 1) (v := v) HS.out.z2 rfl
          have f2_ := blk_frozen HS.out.z2 1
          go_wp2_with fail
          refine start_ (n := 8) (ds := [7]) (S := fun w' => w'.cell? ⟨w.heap.size, 1, none⟩ = some v) #[false, false, false, false, false, false, false, false] (by kernel_rfl) rfl rfl c2_ (fun hHeld => ?_)
          refine pure_ (i := 0) (N := some 31) (v := ?_) (a' := ?_) #[true, false, false, false, false, false, false, false] rfl rfl (by kernel_rfl) (fun _ _ _ h => bpd_put (by decide) (by decide) h) (Or.inl ⟨by rfl, ?_⟩) ?_ ?_
          rotate_left
          · intro w'
            go_simp
            with_reducible rfl
          rotate_left
          · simp only [Act.put, List.setIfInBounds_toArray, List.set_cons_zero, List.set_cons_succ]
            rfl
          refine pure_ (i := 2) (N := some 33) (v := ?_) (a' := ?_) #[true, false, true, false, false, false, false, false] rfl rfl (by kernel_rfl) (fun _ _ _ h => bpd_put (by decide) (by decide) h) (Or.inl ⟨by rfl, ?_⟩) ?_ ?_
          rotate_left
          · intro w'
            go_simp
            with_reducible rfl
          rotate_left
          · simp only [Act.put, List.setIfInBounds_toArray, List.set_cons_zero, List.set_cons_succ]
            rfl
          refine take_ (i := 1) (N := some 32) (v := ?_) (a' := ?_) #[true, true, true, false, false, false, false, false] rfl rfl (by kernel_rfl) (fun _ _ _ h => bpd_put (by decide) (by decide) h) (Or.inl ⟨by rfl, ?_⟩) hHeld ?_ ?_
          rotate_left
          · intro w' s0
            go_simp
            with_reducible rfl
          rotate_left
          · simp only [Act.put, List.setIfInBounds_toArray, List.set_cons_zero, List.set_cons_succ]
            rfl
          refine one_ (i := 3) (N := some 34) #[true, true, true, true, false, false, false, false] rfl rfl (by kernel_rfl) (by decide) (fun K hKK => ?_)
          refine goesQ_ Tryd.func91 (by kernel_rfl) rfl #[.pointer (some ⟨w1.heap.size, 0, none⟩)] (by rfl) rfl rfl (by (try simp only [List.map_toArray, List.map_cons, List.map_nil]); first | done | rfl) ?_
          refine (rtab_rd w1.heap.size lr _ (HS.out.rb.below (below_drew (Below.refl _ _)))).mono fun e w' h => ?_
          rcases hK : rdTab lr with _ | ⟨a, l'⟩
          · rw [hK] at h
            have hR := HRR.out
            rw [many_none hK] at hR
            subst hR
            obtain ⟨rfl, hrd⟩ := TabPost.none h
            exact .inr ⟨_, rfl, leave_pan (HS.out.pan ((Rd.of_below (below_drew (Below.refl _ _)) (Nat.le_of_lt HS.out.rb.lt)).trans hrd)) rfl rfl⟩
          rw [hK] at h
          have hR := HRR.out
          rw [many_step hK] at hR
          have HR2 := Aside0.mk hR
          obtain ⟨A2, c2, A3, c3, he, hrb, hrd, h75, h98⟩ := TabPost.some h
          subst he
          have H75 := Aside0.mk (Kd.R_lower (Kd.R_mono (Kd.R_bound h75) (fun k hk => hk.2.1)) HS.out.rb.lt : k75.R 75 w' (w1.heap.size + 1) (fun k => wr.heap.size ≤ k) (.slice A2 a.f2.length c2) a.f2)
          have H98 := Aside0.mk (Kd.R_lower (Kd.R_mono (Kd.R_bound h98) (fun k hk => hk.2.1)) HS.out.rb.lt : k98.R 98 w' (w1.heap.size + 1) (fun k => wr.heap.size ≤ k) (.slice A3 a.f3.length c3) a.f3)
          have HS3 := Aside0.mk ((HS.out.call (HS.out.rb.below (below_drew (Below.refl _ _))) (Rd.of_below (below_drew (Below.refl _ _)) (Nat.le_of_lt HS.out.rb.lt))).call hrb hrd)
          have HV3 := Aside0.mk (R_rdB HV.out ((Rd.of_below (below_drew (Below.refl _ _)) (Nat.le_of_lt HS.out.rb.lt)).trans hrd))
          have c3_ := H.blk_cell (j := 1) (v := v) HS3.out.z2 rfl
          have hl3 := lt_of_block HS3.out.z2
          clear h hrb hrd hK hR h75 h98
          refine .inl ⟨_, rfl, ?_⟩
          refine hKK.out _ _ c3_ (fun hHeld2 => ?_)
          clear hKK K hHeld hHeld2
          refine norm_ (a' := ?_) ?_ ?_
          rotate_left
          · show Act.put _ (some 34) _ = _
            simp only [Act.put, List.setIfInBounds_toArray, List.set_cons_zero, List.set_cons_succ]
            rfl
          refine one_ (i := 4) (N := some 35) #[true, true, true, true, true, false, false, false] rfl rfl (by kernel_rfl) (by decide) (fun K hKK => ?_)
          refine value_ (w1 := ?_) (v := ?_) (by rfl) rfl ?_ ?_
          rotate_left 2
          · go_simp
            constructor
            · rfl
            · rfl
          refine hKK.out _ _ (H.blk_cell (j := 1) (v := v) (blk_alloc HS3.out.z2 _) rfl) (fun hHeld2 => ?_)
          clear hKK K hHeld2
          refine norm_ (a' := ?_) ?_ ?_
          rotate_left
          · show Act.put _ (some 35) _ = _
            simp only [Act.put, List.setIfInBounds_toArray, List.set_cons_zero, List.set_cons_succ]
            rfl
          refine one_ (i := 5) (N := some 36) #[true, true, true, true, true, true, false, false] rfl rfl (by kernel_rfl) (by decide) (fun K hKK => ?_)
          refine Kd.R_append_step k70 (w0 := w') (w1.heap.size + 1) (by rfl) (.tmp 32) (.tmp 35) 26 70 (.agg #[(.int .i64 0), (.string ⟨#[]⟩), (.slice none 0 0), (.slice none 0 0), (.int .i64 0)]) 80 rfl Tryd.underlying26 info70 rfl (by decide) (by omega) v ts a [.int .i64 a.f0, .string a.f1, .slice A2 a.f2.length c2, .slice A3 a.f3.length c3, .int .i64 a.f4] (fun _ => True) (fun k => wr.heap.size ≤ k) rfl rfl (k70_mkM _ _ _ a H75.out H98.out) (fun k hk => ⟨trivial, fun he => absurd (Kd.R_lt HV.out k he.symm) (by omega)⟩) (fun _ _ => trivial) HV3.out (Below.refl _ _) HS3.out.rb.lt hlen ?_
          intro v1 w1' ho hb hg hat
          obtain ⟨A1, cc1, e1⟩ := Kd.R_slice ho
          rw [show (ts ++ [a]).length = ts.length + 1 by simp] at e1
          subst e1
          have HS4 := Aside0.mk (HS3.out.grown hb (Below.refl _ _) hg)
          have HV4 := Aside0.mk ho
          have c4_ := H.blk_cell (j := 1) (v := v) HS4.out.z2 rfl
          have f4_ := blk_frozen HS4.out.z2 1
          clear ho hb hg hat
          refine hKK.out _ _ c4_ (fun hHeld2 => ?_)
          clear hKK K hHeld2
          refine norm_ (a' := ?_) ?_ ?_
          rotate_left
          · show Act.put _ (some 36) _ = _
            simp only [Act.put, List.setIfInBounds_toArray, List.set_cons_zero, List.set_cons_succ]
            rfl
          refine pure_ (i := 6) (N := some 37) (v := ?_) (a' := ?_) #[true, true, true, true, true, true, true, false] rfl rfl (by kernel_rfl) (fun _ _ _ h => bpd_put (by decide) (by decide) h) (Or.inl ⟨by rfl, ?_⟩) ?_ ?_
          rotate_left
          · intro w'
            go_simp
            with_reducible rfl
          rotate_left
          · simp only [Act.put, List.setIfInBounds_toArray, List.set_cons_zero, List.set_cons_succ]
            rfl
          refine last_ (i := 7) (N := none) #[true, true, true, true, true, true, true, true] rfl rfl (by kernel_rfl) (by decide) (fun K hKK => ?_)
          refine skip_ (w1 := ?_) (by rfl) rfl ?_ ?_
          rotate_left
          · go_simp
            rfl
          refine hKK.out _ _ ?_
          clear hKK K
          refine done_ (by kernel_rfl) ?_
          all_goals
            have HS5 := Aside0.mk (HS4.out.put 1 (.slice A1 (ts.length + 1) cc1) rfl : GSt w _ w1.heap.size _ (.int .i64 a0) (.slice A1 (ts.length + 1) cc1) (.int .i64 0))
            have HV5 := Aside0.mk (Kd.R_set HV4.out HS4.out.z2 (by decide) 1 (.slice A1 (ts.length + 1) cc1))
            clear HS HV HS3 HV3 HS4 HV4 c2_ f2_ c3_ f4_ c4_ hl3
            have hl1 : (ts ++ [a]).length + k = k0 := by rw [List.length_append, List.length_singleton]; omega
            go_wp2
            go_roundg k
            case measure => omega
            case rel => exact ⟨k, _, _, _, by omega, by omega, by go_num, hl1, HS5, HV5, HR2⟩
        | zero =>
          have hkz : ¬ (0 : Int) < ((0 : Nat) : Int) := by omega
          have HR := Lib.hid ((many_end ts (rdSch1 a0)).symm.trans HRR.out)
          unfold rdSch1 at HR
          clear HRR hk hgk hxk
          obtain ⟨A, cc, e1⟩ := Kd.R_slice HV.out
          subst e1
          go_wp2_with fail
          refine (rnumr_calls w1.heap.size lr _ HS.out.rb).mono fun e w4 h => ?_
          have hR := HR.out
          cases hK : rdN lr with
          | none =>
            rw [hK] at h hR
            obtain rfl : none = R := hR
            obtain ⟨rfl, hrd⟩ := h.none
            exact leave_pan (HS.out.pan hrd) rfl rfl
          | some q =>
            obtain ⟨nx, l4⟩ := q
            rw [hK] at h hR
            simp only [Option.bind_some] at hR
            obtain ⟨rfl, hrb, hrd⟩ := h.some
            have n_ := Aside0.mk (HS.out.call hrb hrd)
            have HR1 := Lib.hid hR
            have HV6 := Aside0.mk (R_rdB HV.out hrd)
            clear HV
            have HV := HV6
            clear HV6
            clear hK h hR HR HS hrb hrd
            have HS := n_
            have HR := HR1
            clear n_ HR1
            obtain rfl : some ((a0, ts, nx), l4) = R := HR.out
            have hts := HWF.out a0 ts nx l4 rfl
            have c0 := H.blk_cell (j := 0) (v := .int .i64 a0) HS.out.z2 rfl
            have c1 := H.blk_cell (j := 1) (v := .slice A ts.length cc) HS.out.z2 rfl
            have c2 := H.blk_cell (j := 2) (v := .int .i64 0) HS.out.z2 rfl
            have f2 := blk_frozen HS.out.z2 2
            have HV7 := Aside0.mk (Kd.R_set HV.out HS.out.z2 (by decide) 2 (.int .i64 nx))
            have n_ := Aside0.mk (HS.out.put 2 (.int .i64 nx) rfl : GSt w _ w1.heap.size _ (.int .i64 a0) (.slice A ts.length cc) (.int .i64 nx))
            clear HS HV HR HWF
            have HS := n_
            have HV := HV7
            clear n_ HV7
            obtain ⟨-, hcc, hC⟩ := Kd.R_reads' HV.out
            have HP := Lib.hid (dput_calls a0 ts nx hts A cc _ (HG.out.of_below HS.out.below) hC)
            generalize hEq : putE a0 ts nx = E at HP
            generalize hSq : putS a0 ts nx = t at HP
            have HEq := Lib.hid hEq
            have HSq := Lib.hid hSq
            clear hC hts hEq hSq
            go_wp2_with fail
            refine HP.out.mono ?_
            rintro e w5 ⟨rfl, hb5⟩
            have hB5 := below_then HS.out.below HS.out.below.size hb5
            have z2 := blk_below HS.out.z2 hb5
            have z3 := blk_below HS.out.z3 hb5
            have HV5 := Aside0.mk (Kd.R_lower (Kd.R_below HV.out hb5) (by have := HS.out.hg; omega : w.heap.size ≤ w1.heap.size + 1))
            clear HP HS HV hb5 c0 c1 c2 f2
            have c0 := H.blk_cell (j := 0) (v := .int .i64 a0) z2 rfl
            have c1 := H.blk_cell (j := 1) (v := .slice A ts.length cc) z2 rfl
            have c2 := H.blk_cell (j := 2) (v := .int .i64 nx) z2 rfl
            have c3 := H.blk_cell (j := 0) (v := .int .i64 0) z3 rfl
            have f0 := blk_frozen z2 0
            have f1 := blk_frozen z2 1
            have f2 := blk_frozen z2 2
            have f3 := blk_frozen z3 0
            have hn1 : w.heap.size ≠ w.heap.size + 1 := by omega
            have hn2 : w.heap.size + 1 ≠ w.heap.size := by omega
            by_cases hE : E = 0
            · subst hE
              by_cases hT : t = s
              · subst hT
                go_wp2
                have y2 := blk_far (blk_put (cs' := #[.int .i64 a0, .slice A ts.length cc, .int .i64 nx]) (blk_put (cs' := #[.int .i64 a0, .slice A ts.length cc, .int .i64 nx]) (blk_put (cs' := #[.int .i64 a0, .slice A ts.length cc, .int .i64 nx]) z2 0 (.int .i64 a0) rfl) 1 (.slice A ts.length cc) rfl) 2 (.int .i64 nx) rfl) (p := ⟨w.heap.size + 1, 0, none⟩) (by show w.heap.size ≠ w.heap.size + 1; omega) (.int .i64 0)
                have y3 := blk_put (cs' := #[.int .i64 0]) (blk_far (blk_far (blk_far z3 (p := ⟨w.heap.size, 0, none⟩) (by show w.heap.size + 1 ≠ w.heap.size; omega) (.int .i64 a0)) (p := ⟨w.heap.size, 1, none⟩) (by show w.heap.size + 1 ≠ w.heap.size; omega) (.slice A ts.length cc)) (p := ⟨w.heap.size, 2, none⟩) (by show w.heap.size + 1 ≠ w.heap.size; omega) (.int .i64 nx)) 0 (.int .i64 0) rfl
                have hb : Below w.heap.size w ((((w5.setCell ⟨w.heap.size, 0, none⟩ (.int .i64 a0)).setCell ⟨w.heap.size, 1, none⟩ (.slice A ts.length cc)).setCell ⟨w.heap.size, 2, none⟩ (.int .i64 nx)).setCell ⟨w.heap.size + 1, 0, none⟩ (.int .i64 0)) :=
                  (((hB5.setCell (p := ⟨w.heap.size, 0, none⟩) (Nat.le_refl _) _).setCell (p := ⟨w.heap.size, 1, none⟩) (Nat.le_refl _) _).setCell (p := ⟨w.heap.size, 2, none⟩) (Nat.le_refl _) _).setCell (p := ⟨w.heap.size + 1, 0, none⟩) (by show w.heap.size ≤ w.heap.size + 1; omega) _
                have hr1 := Kd.R_set HV5.out z2 (by decide) 0 (.int .i64 a0)
                have hr2 := Kd.R_set hr1 (blk_put (cs' := #[.int .i64 a0, .slice A ts.length cc, .int .i64 nx]) z2 0 (.int .i64 a0) rfl) (by decide) 1 (.slice A ts.length cc)
                have hr3 := Kd.R_set hr2 (blk_put (cs' := #[.int .i64 a0, .slice A ts.length cc, .int .i64 nx]) (blk_put (cs' := #[.int .i64 a0, .slice A ts.length cc, .int .i64 nx]) z2 0 (.int .i64 a0) rfl) 1 (.slice A ts.length cc) rfl) (by decide) 2 (.int .i64 nx)
                have hr4 := Kd.R_set hr3 (blk_far (blk_far (blk_far z3 (p := ⟨w.heap.size, 0, none⟩) (by show w.heap.size + 1 ≠ w.heap.size; omega) (.int .i64 a0)) (p := ⟨w.heap.size, 1, none⟩) (by show w.heap.size + 1 ≠ w.heap.size; omega) (.slice A ts.length cc)) (p := ⟨w.heap.size, 2, none⟩) (by show w.heap.size + 1 ≠ w.heap.size; omega) (.int .i64 nx)) (by decide) 0 (.int .i64 0)
                exact leave_ret y2 y3 rfl rfl rfl rfl rfl ⟨hb, .inl ⟨HEq.out, HSq.out, A, cc, rfl, hr4⟩⟩
              · have HNO := Lib.hid (show ¬ (putE a0 ts nx = 0 ∧ putS a0 ts nx = s) from fun h => hT (HSq.out.symm.trans h.2))
                have te : (t.toList == s.toList) = false := by rw [beq_eq_false_iff_ne]; intro h; rw [ByteArray.toList_eq, ByteArray.toList_eq] at h; exact hT (ByteArray.ext (Array.toList_inj.mp h))
                clear hT
                go_wp2
                have y2 := blk_far (blk_put (cs' := #[.int .i64 0, .slice none 0 0, .int .i64 0]) (blk_put (cs' := #[.int .i64 0, .slice none 0 0, .int .i64 nx]) (blk_put (cs' := #[.int .i64 0, .slice A ts.length cc, .int .i64 nx]) z2 0 (.int .i64 0) rfl) 1 (.slice none 0 0) rfl) 2 (.int .i64 0) rfl) (p := ⟨w.heap.size + 1, 0, none⟩) (by show w.heap.size ≠ w.heap.size + 1; omega) (.int .i64 3)
                have y3 := blk_put (cs' := #[.int .i64 3]) (blk_far (blk_far (blk_far z3 (p := ⟨w.heap.size, 0, none⟩) (by show w.heap.size + 1 ≠ w.heap.size; omega) (.int .i64 0)) (p := ⟨w.heap.size, 1, none⟩) (by show w.heap.size + 1 ≠ w.heap.size; omega) (.slice none 0 0)) (p := ⟨w.heap.size, 2, none⟩) (by show w.heap.size + 1 ≠ w.heap.size; omega) (.int .i64 0)) 0 (.int .i64 3) rfl
                have hb : Below w.heap.size w ((((w5.setCell ⟨w.heap.size, 0, none⟩ (.int .i64 0)).setCell ⟨w.heap.size, 1, none⟩ (.slice none 0 0)).setCell ⟨w.heap.size, 2, none⟩ (.int .i64 0)).setCell ⟨w.heap.size + 1, 0, none⟩ (.int .i64 3)) :=
                  (((hB5.setCell (p := ⟨w.heap.size, 0, none⟩) (Nat.le_refl _) _).setCell (p := ⟨w.heap.size, 1, none⟩) (Nat.le_refl _) _).setCell (p := ⟨w.heap.size, 2, none⟩) (Nat.le_refl _) _).setCell (p := ⟨w.heap.size + 1, 0, none⟩) (by show w.heap.size ≤ w.heap.size + 1; omega) _
                exact leave_ret y2 y3 rfl rfl rfl rfl rfl ⟨hb, .inr ⟨HNO.out, rfl⟩⟩
            · have HNO := Lib.hid (show ¬ (putE a0 ts nx = 0 ∧ putS a0 ts nx = s) from fun h => hE (HEq.out.symm.trans h.1))
              have te : (E == 0) = false := beq_eq_false_iff_ne.2 hE
              have te2 : (E != 0) = true := by rw [bne, te]; rfl
              clear hE
              go_wp2
              have y2 := blk_far (blk_put (cs' := #[.int .i64 0, .slice none 0 0, .int .i64 0]) (blk_put (cs' := #[.int .i64 0, .slice none 0 0, .int .i64 nx]) (blk_put (cs' := #[.int .i64 0, .slice A ts.length cc, .int .i64 nx]) z2 0 (.int .i64 0) rfl) 1 (.slice none 0 0) rfl) 2 (.int .i64 0) rfl) (p := ⟨w.heap.size + 1, 0, none⟩) (by show w.heap.size ≠ w.heap.size + 1; omega) (.int .i64 3)
              have y3 := blk_put (cs' := #[.int .i64 3]) (blk_far (blk_far (blk_far z3 (p := ⟨w.heap.size, 0, none⟩) (by show w.heap.size + 1 ≠ w.heap.size; omega) (.int .i64 0)) (p := ⟨w.heap.size, 1, none⟩) (by show w.heap.size + 1 ≠ w.heap.size; omega) (.slice none 0 0)) (p := ⟨w.heap.size, 2, none⟩) (by show w.heap.size + 1 ≠ w.heap.size; omega) (.int .i64 0)) 0 (.int .i64 3) rfl
              have hb : Below w.heap.size w ((((w5.setCell ⟨w.heap.size, 0, none⟩ (.int .i64 0)).setCell ⟨w.heap.size, 1, none⟩ (.slice none 0 0)).setCell ⟨w.heap.size, 2, none⟩ (.int .i64 0)).setCell ⟨w.heap.size + 1, 0, none⟩ (.int .i64 3)) :=
                (((hB5.setCell (p := ⟨w.heap.size, 0, none⟩) (Nat.le_refl _) _).setCell (p := ⟨w.heap.size, 1, none⟩) (Nat.le_refl _) _).setCell (p := ⟨w.heap.size, 2, none⟩) (Nat.le_refl _) _).setCell (p := ⟨w.heap.size + 1, 0, none⟩) (by show w.heap.size ≤ w.heap.size + 1; omega) _
              exact leave_ret y2 y3 rfl rfl rfl rfl rfl ⟨hb, .inr ⟨HNO.out, rfl⟩⟩
end Go.Proofs.YtjgomlcdmpcoaaaDoor.H
namespace Go.Proofs.YtjgomlcdmpcoaaaDoor.H
open Go.RowKit Go.Proofs.YtjgomlcdmpcoaaaDoorW.PrintWords Go.Proofs.YtjgomlcdmpcoaaaDoorW.PrintLast Go.Proofs.YtjgomlcdmpcoaaaDoorW.PrintMore
open Go.Proofs.YtjgomlcdmpcoaaaDoor.D Go.Proofs.YtjgomlcdmpcoaaaDoor
set_option linter.unusedVariables false
set_option linter.unusedSimpArgs false
def I64 (n : Int) : Prop := -9223372036854775808 ≤ n ∧ n < 9223372036854775808
theorem rdW_e8 (n : Int) (r : List Int) (h : 0 ≤ n ∧ n < 18446744073709551616) : rdW (e8 n ++ r) = some (n, r) := by
  unfold rdW
  rw [if_pos (by rw [List.length_append, e8_len]; omega), List.take_left' (e8_len n), List.drop_left' (e8_len n), be_e8 n h.1 h.2]
theorem rdN_e8 (n : Int) (r : List Int) (h : I64 n) : rdN (e8 (un64 n) ++ r) = some (n, r) := by
  unfold rdN
  rw [if_pos (by rw [List.length_append, e8_len]; omega), List.take_left' (e8_len _), List.drop_left' (e8_len _), be_e8 _ (un_in n).1 (un_in n).2, wrap_un n h.1 h.2]
theorem rdC_e8 (n : Nat) (r : List Int) (h : n ≤ r.length) (hr : n ≤ 1000000000) : rdC (e8 (un64 n) ++ r) = some ((n : Int), r) := by
  have hi : I64 (n : Int) := by unfold I64; constructor <;> omega
  have hc : 0 ≤ (n : Int) ∧ (n : Int) ≤ r.length := by constructor <;> omega
  unfold rdC
  rw [rdN_e8 n r hi]
  show (if 0 ≤ (n : Int) ∧ (n : Int) ≤ r.length then some ((n : Int), r) else none) = _
  rw [if_pos hc]
theorem rdT_some (l : List Int) (n : Int) (r : List Int) (h : rdC l = some (n, r)) : rdT l = some (strOfNums (r.take n.toNat), r.drop n.toNat) := by
  unfold rdT
  rw [h]
theorem rdT_tx (s : ByteArray) (r : List Int) (h : s.size ≤ 1000000000) : rdT (tx s ++ r) = some (s, r) := by
  have hl : s.size ≤ (bytesOf s ++ r).length := by rw [List.length_append, bytesOf_length]; exact Nat.le_add_right _ _
  have h1 := rdC_e8 s.size (bytesOf s ++ r) hl h
  have ht : tx s ++ r = e8 (un64 s.size) ++ (bytesOf s ++ r) := by unfold tx; exact List.append_assoc _ _ _
  have h2 := rdT_some _ _ _ h1
  rw [ht, h2, Int.toNat_natCast, List.take_left' (bytesOf_length s), List.drop_left' (bytesOf_length s), strOf_bytes]
theorem rdMany_flat {α : Type} (f : List Int → Option (α × List Int)) (g : α → List Int) : ∀ (xs : List α) (r : List Int), (∀ x ∈ xs, ∀ r, f (g x ++ r) = some (x, r)) → rdMany f xs.length (xs.flatMap g ++ r) = some (xs, r)
  | [], r, _ => rfl
  | x :: xs, r, h => by
    rw [List.flatMap_cons, List.append_assoc, List.length_cons, rdMany, h x List.mem_cons_self, Option.bind_some, rdMany_flat f g xs r (fun y hy => h y (List.mem_cons_of_mem _ hy))]
    rfl
theorem flat_le {α : Type} (g : α → List Int) (h : ∀ x, 1 ≤ (g x).length) : ∀ xs : List α, xs.length ≤ (xs.flatMap g).length
  | [] => by simp
  | x :: xs => by
    have := flat_le g h xs
    have := h x
    rw [List.flatMap_cons, List.length_append, List.length_cons]
    omega
def ColOk (c : S75) : Prop := I64 c.f0 ∧ c.f1.size ≤ 1000000 ∧ I64 c.f2 ∧ I64 c.f3 ∧ I64 c.f4 ∧ I64 c.f5.f0 ∧ I64 c.f5.f1 ∧ (0 ≤ c.f5.f2 ∧ c.f5.f2 < 18446744073709551616) ∧ c.f5.f3.size ≤ 1000000
theorem bnd {α β : Type} {o : Option (α × List Int)} {x : α} {r : List Int} {f : α × List Int → Option β} {z : Option β} (h : o = some (x, r)) (k : f (x, r) = z) : o.bind f = z := by
  subst h
  exact k
theorem rdCol_colL (c : S75) (r : List Int) (h : ColOk c) : rdCol (colL c ++ r) = some (c, r) := by
  obtain ⟨h0, h1, h2, h3, h4, h5, h6, h7, h8⟩ := h
  unfold rdCol colL
  simp only [List.append_assoc]
  refine bnd (rdN_e8 _ _ h0) ?_; dsimp only
  refine bnd (rdT_tx _ _ (by omega)) ?_; dsimp only
  refine bnd (rdN_e8 _ _ h2) ?_; dsimp only
  refine bnd (rdN_e8 _ _ h3) ?_; dsimp only
  refine bnd (rdN_e8 _ _ h4) ?_; dsimp only
  refine bnd (rdN_e8 _ _ h5) ?_; dsimp only
  refine bnd (rdW_e8 _ _ (un_in _)) ?_; dsimp only
  refine bnd (rdW_e8 _ _ h7) ?_; dsimp only
  refine bnd (rdT_tx _ _ (by omega)) ?_; dsimp only
  rewrite [wrap_un _ h6.1 h6.2]; rfl
def IndOk (x : S98) : Prop := I64 x.f0 ∧ x.f1.size ≤ 1000000 ∧ x.f2.length ≤ 1000000 ∧ (∀ y ∈ x.f2, I64 y) ∧ I64 x.f4
theorem tru_un (b : Bool) : e8 (tru b) = e8 (un64 (tru b)) := by cases b <;> rfl
theorem rdInd_indL (x : S98) (r : List Int) (h : IndOk x) : rdInd (indL x ++ r) = some (x, r) := by
  obtain ⟨h0, h1, h2, h3, h4⟩ := h
  unfold rdInd indL
  simp only [List.append_assoc]
  refine bnd (rdN_e8 _ _ h0) ?_; dsimp only
  refine bnd (rdT_tx _ _ (by omega)) ?_; dsimp only
  refine bnd (rdC_e8 _ _ (by rw [List.length_append]; have := flat_le intL (fun n => by unfold intL; rw [e8_len]; omega) x.f2; unfold intsL; omega) (by omega)) ?_; dsimp only [Int.toNat_natCast]
  rewrite [show intsL x.f2 = x.f2.flatMap intL from rfl]; refine bnd (rdMany_flat rdN intL x.f2 _ (fun y hy r => rdN_e8 y r (h3 y hy))) ?_; dsimp only [List.nil_append]
  unfold rdInd1
  rewrite [tru_un]; refine bnd (rdN_e8 _ _ (by unfold I64 tru; split <;> omega)) ?_; dsimp only
  refine bnd (rdN_e8 _ _ h4) ?_; dsimp only
  have e : (tru x.f3 == 1) = x.f3 := by cases x.f3 <;> rfl
  rewrite [e]; rfl
def TabOk (t : S70) : Prop := I64 t.f0 ∧ t.f1.size ≤ 1000000 ∧ t.f2.length ≤ 1000000 ∧ (∀ c ∈ t.f2, ColOk c) ∧ t.f3.length ≤ 1000000 ∧ (∀ x ∈ t.f3, IndOk x) ∧ I64 t.f4
theorem rdTab_tabL (t : S70) (r : List Int) (h : TabOk t) : rdTab (tabL t ++ r) = some (t, r) := by
  obtain ⟨h0, h1, h2, h3, h4, h5, h6⟩ := h
  unfold rdTab tabL
  simp only [List.append_assoc]
  refine bnd (rdN_e8 _ _ h0) ?_; dsimp only
  refine bnd (rdT_tx _ _ (by omega)) ?_; dsimp only
  refine bnd (rdC_e8 _ _ (by rw [List.length_append]; have := flat_le colL (fun c => by rw [colL_len]; omega) t.f2; unfold colsL; omega) (by omega)) ?_; dsimp only [Int.toNat_natCast]
  rewrite [show colsL t.f2 = t.f2.flatMap colL from rfl]; refine bnd (rdMany_flat rdCol colL t.f2 _ (fun c hc r => rdCol_colL c r (h3 c hc))) ?_; dsimp only [List.nil_append]
  unfold rdTab1
  refine bnd (rdC_e8 _ _ (by rw [List.length_append]; have := flat_le indL (fun c => by rw [indL_len]; omega) t.f3; unfold indsL; omega) (by omega)) ?_; dsimp only [Int.toNat_natCast]
  rewrite [show indsL t.f3 = t.f3.flatMap indL from rfl]; refine bnd (rdMany_flat rdInd indL t.f3 _ (fun c hc r => rdInd_indL c r (h5 c hc))) ?_; dsimp only [List.nil_append]
  unfold rdTab2
  refine bnd (rdN_e8 _ _ h6) ?_; dsimp only
theorem rdSch_putL (v : Int) (ts : List S70) (nx : Int) (hv : I64 v) (hn : I64 nx) (hl : ts.length ≤ 1000000) (h : ∀ t ∈ ts, TabOk t) : rdSch (putL v ts nx) = some ((v, ts, nx), []) := by
  unfold rdSch putL
  refine bnd (rdN_e8 _ _ hv) ?_; dsimp only
  refine bnd (rdC_e8 _ _ (by rw [List.length_append]; have := flat_le tabL (fun c => by rw [tabL_len]; omega) ts; unfold tabsL; omega) (by omega)) ?_; dsimp only [Int.toNat_natCast]
  rewrite [show tabsL ts = ts.flatMap tabL from rfl]; refine bnd (rdMany_flat rdTab tabL ts _ (fun t ht r => rdTab_tabL t r (h t ht))) ?_; dsimp only [List.nil_append]
  unfold rdSch1
  have := rdN_e8 nx [] hn
  rw [List.append_nil] at this
  refine bnd this ?_; rfl
end Go.Proofs.YtjgomlcdmpcoaaaDoor.H
namespace Go.Proofs.YtjgomlcdmpcoaaaDoor.H
open Go.RowKit Go.Proofs.YtjgomlcdmpcoaaaDoorW.PrintWords Go.Proofs.YtjgomlcdmpcoaaaDoorW.PrintLast Go.Proofs.YtjgomlcdmpcoaaaDoorW.PrintMore
open Go.Proofs.YtjgomlcdmpcoaaaDoor.D Go.Proofs.YtjgomlcdmpcoaaaDoor
set_option linter.unusedVariables false
def ValWf2 (v : S73) : Prop := I64 v.f0 ∧ I64 v.f1 ∧ ValWf v ∧ v.f3.size ≤ maxLen
def ColWf2 (c : S75) : Prop := ColWf c ∧ I64 c.f2 ∧ I64 c.f3 ∧ I64 c.f4 ∧ ValWf2 c.f5
def IndWf2 (x : S98) : Prop := IndWf x ∧ (∀ n ∈ x.f2, I64 n) ∧ I64 x.f4
def TabWf2 (t : S70) : Prop := TabWf t ∧ I64 t.f0 ∧ (∀ c ∈ t.f2, ColWf2 c) ∧ (∀ x ∈ t.f3, IndWf2 x) ∧ I64 t.f4
set_option maxRecDepth 100000 in
theorem opens73r : Opens k73 73 ValWf2 := by
  intro H enc W base spare held fuel cs x h
  obtain ⟨hl, hf⟩ := struct_get Tryd.underlying73 h
  rw [cells73] at hl
  obtain ⟨c0, c1, c2, c3, rfl⟩ : ∃ c0 c1 c2 c3, cs = [c0, c1, c2, c3] := by
    match cs, hl with
    | [c0, c1, c2, c3], _ => exact ⟨c0, c1, c2, c3, rfl⟩
  obtain ⟨y0, n0, h0⟩ := hf 0 3 0 1 rfl cells3
  obtain ⟨x0, hx0, w0⟩ := (opens_int Tryd.underlying3) H enc W base spare held n0 [c0] y0 h0
  obtain ⟨y1, n1, h1⟩ := hf 1 2 1 1 rfl cells2
  obtain ⟨x1, hx1, w1⟩ := (opens_int Tryd.underlying2) H enc W base spare held n1 [c1] y1 h1
  obtain ⟨y2, n2, h2⟩ := hf 2 71 2 1 rfl cells71
  obtain ⟨x2, hx2, w2⟩ := (opens_int Tryd.underlying71) H enc W base spare held n2 [c2] y2 h2
  obtain ⟨y3, n3, h3⟩ := hf 3 9 3 1 rfl cells9
  obtain ⟨x3, hx3, w3⟩ := (opens_string Tryd.underlying9) H enc W base spare held n3 [c3] y3 h3
  injection hx0 with e0
  injection hx1 with e1
  injection hx2 with e2
  injection hx3 with e3
  subst e0 e1 e2 e3
  exact ⟨⟨x0, x1, x2, x3⟩, k73_mk W ⟨x0, x1, x2, x3⟩, wf_i w0, wf_i w1, wf_u w2, w3⟩
set_option maxRecDepth 100000 in
theorem opens75r : Opens k75 75 ColWf2 := by
  intro H enc W base spare held fuel cs x h
  obtain ⟨hl, hf⟩ := struct_get Tryd.underlying75 h
  rw [cells75_] at hl
  obtain ⟨c0, c1, c2, c3, c4, c5, c6, c7, c8, rfl⟩ : ∃ c0 c1 c2 c3 c4 c5 c6 c7 c8, cs = [c0, c1, c2, c3, c4, c5, c6, c7, c8] := by
    match cs, hl with
    | [c0, c1, c2, c3, c4, c5, c6, c7, c8], _ => exact ⟨c0, c1, c2, c3, c4, c5, c6, c7, c8, rfl⟩
  obtain ⟨y0, n0, h0⟩ := hf 0 3 0 1 rfl cells3
  obtain ⟨x0, hx0, w0⟩ := (opens_int Tryd.underlying3) H enc W base spare held n0 [c0] y0 h0
  obtain ⟨y1, n1, h1⟩ := hf 1 9 1 1 rfl cells9
  obtain ⟨x1, hx1, w1⟩ := (opens_string Tryd.underlying9) H enc W base spare held n1 [c1] y1 h1
  obtain ⟨y2, n2, h2⟩ := hf 2 3 2 1 rfl cells3
  obtain ⟨x2, hx2, w2⟩ := (opens_int Tryd.underlying3) H enc W base spare held n2 [c2] y2 h2
  obtain ⟨y3, n3, h3⟩ := hf 3 3 3 1 rfl cells3
  obtain ⟨x3, hx3, w3⟩ := (opens_int Tryd.underlying3) H enc W base spare held n3 [c3] y3 h3
  obtain ⟨y4, n4, h4⟩ := hf 4 3 4 1 rfl cells3
  obtain ⟨x4, hx4, w4⟩ := (opens_int Tryd.underlying3) H enc W base spare held n4 [c4] y4 h4
  obtain ⟨y5, n5, h5⟩ := hf 5 73 5 4 rfl cells73
  obtain ⟨x5, hx5, w5⟩ := opens73r H enc W base spare held n5 [c5, c6, c7, c8] y5 h5
  injection hx0 with e0
  injection hx1 with e1
  injection hx2 with e2
  injection hx3 with e3
  injection hx4 with e4
  have e5 := k73_open hx5
  subst e0 e1 e2 e3 e4
  refine ⟨⟨x0, x1, x2, x3, x4, x5⟩, ?_, ⟨(wf_i w0).1, (wf_i w0).2, w1, w5.2.2.1⟩, wf_i w2, wf_i w3, wf_i w4, w5⟩
  have := k75_mk W ⟨x0, x1, x2, x3, x4, x5⟩
  rw [e5]
  exact this
theorem opens40r : Opens (Kd.slice 3 (Kd.int .i64)) 40 (fun l => ∀ n ∈ l, I64 n) := (opens_slice Tryd.underlying40 (opens_int Tryd.underlying3) cells3).weak (fun _ h n hn => wf_i (h n hn))
set_option maxRecDepth 100000 in
theorem opens98r : Opens k98 98 IndWf2 := by
  intro H enc W base spare held fuel cs x h
  obtain ⟨hl, hf⟩ := struct_get Tryd.underlying98 h
  rw [cells98] at hl
  obtain ⟨c0, c1, c2, c3, c4, rfl⟩ : ∃ c0 c1 c2 c3 c4, cs = [c0, c1, c2, c3, c4] := by
    match cs, hl with
    | [c0, c1, c2, c3, c4], _ => exact ⟨c0, c1, c2, c3, c4, rfl⟩
  obtain ⟨y0, n0, h0⟩ := hf 0 3 0 1 rfl cells3
  obtain ⟨x0, hx0, w0⟩ := (opens_int Tryd.underlying3) H enc W base spare held n0 [c0] y0 h0
  obtain ⟨y1, n1, h1⟩ := hf 1 9 1 1 rfl cells9
  obtain ⟨x1, hx1, w1⟩ := (opens_string Tryd.underlying9) H enc W base spare held n1 [c1] y1 h1
  obtain ⟨y2, n2, h2⟩ := hf 2 40 2 1 rfl cells40
  obtain ⟨x2, hx2, w2⟩ := opens40r H enc W base spare held n2 [c2] y2 h2
  obtain ⟨y3, n3, h3⟩ := hf 3 4 3 1 rfl cells4
  obtain ⟨x3, hx3, w3⟩ := (opens_bool Tryd.underlying4) H enc W base spare held n3 [c3] y3 h3
  obtain ⟨y4, n4, h4⟩ := hf 4 3 4 1 rfl cells3
  obtain ⟨x4, hx4, w4⟩ := (opens_int Tryd.underlying3) H enc W base spare held n4 [c4] y4 h4
  injection hx0 with e0
  injection hx1 with e1
  injection hx3 with e3
  injection hx4 with e4
  obtain ⟨A2, c2', e2, l2, g2⟩ := hx2
  injection e2 with e2
  subst e0 e1 e2 e3 e4
  exact ⟨⟨x0, x1, x2, x3, x4⟩, k98_mk W ⟨x0, x1, x2, x3, x4⟩ l2 g2, ⟨(wf_i w0).1, (wf_i w0).2, w1⟩, w2, wf_i w4⟩
theorem opens67r : Opens (Kd.slice 75 k75) 67 (fun l => ∀ c ∈ l, ColWf2 c) := opens_slice Tryd.underlying67 opens75r cells75_
theorem opens68r : Opens (Kd.slice 98 k98) 68 (fun l => ∀ c ∈ l, IndWf2 c) := opens_slice Tryd.underlying68 opens98r cells98
set_option maxRecDepth 100000 in
theorem opens70r : Opens k70 70 TabWf2 := by
  intro H enc W base spare held fuel cs x h
  obtain ⟨hl, hf⟩ := struct_get Tryd.underlying70 h
  rw [cells70] at hl
  obtain ⟨c0, c1, c2, c3, c4, rfl⟩ : ∃ c0 c1 c2 c3 c4, cs = [c0, c1, c2, c3, c4] := by
    match cs, hl with
    | [c0, c1, c2, c3, c4], _ => exact ⟨c0, c1, c2, c3, c4, rfl⟩
  obtain ⟨y0, n0, h0⟩ := hf 0 3 0 1 rfl cells3
  obtain ⟨x0, hx0, w0⟩ := (opens_int Tryd.underlying3) H enc W base spare held n0 [c0] y0 h0
  obtain ⟨y1, n1, h1⟩ := hf 1 9 1 1 rfl cells9
  obtain ⟨x1, hx1, w1⟩ := (opens_string Tryd.underlying9) H enc W base spare held n1 [c1] y1 h1
  obtain ⟨y2, n2, h2⟩ := hf 2 67 2 1 rfl cells67
  obtain ⟨x2, hx2, w2⟩ := opens67r H enc W base spare held n2 [c2] y2 h2
  obtain ⟨y3, n3, h3⟩ := hf 3 68 3 1 rfl cells68
  obtain ⟨x3, hx3, w3⟩ := opens68r H enc W base spare held n3 [c3] y3 h3
  obtain ⟨y4, n4, h4⟩ := hf 4 3 4 1 rfl cells3
  obtain ⟨x4, hx4, w4⟩ := (opens_int Tryd.underlying3) H enc W base spare held n4 [c4] y4 h4
  injection hx0 with e0
  injection hx1 with e1
  injection hx4 with e4
  obtain ⟨A2, c2', e2, l2, g2⟩ := hx2
  injection e2 with e2
  obtain ⟨A3, c3', e3, l3, g3⟩ := hx3
  injection e3 with e3
  subst e0 e1 e2 e3 e4
  exact ⟨⟨x0, x1, x2, x3, x4⟩, k70_mk W ⟨x0, x1, x2, x3, x4⟩ l2 g2 l3 g3, ⟨w1, fun c hc => (w2 c hc).1, fun x hx => (w3 x hx).1⟩, wf_i w0, w2, w3, wf_i w4⟩
theorem opens26r : Opens (Kd.slice 70 k70) 26 (fun l => ∀ t ∈ l, TabWf2 t) := opens_slice Tryd.underlying26 opens70r cells70
set_option maxRecDepth 100000 in
theorem open_schema2 {H : Type} {enc : TypeId × Value → H} {W : World} {base : Nat} {spare : Nat → Bool} {held : Bool} {fuel : Nat} {cs : List Value} {x : DataW H × List MemPlace} (h : DataW.trod enc Tryd.prog W base spare held fuel 28 cs = some x) :
    ∃ (v : Int) (ts : List S70) (nx : Int) (A : Option Addr) (c : Nat), cs = [.int .i64 v, .slice A ts.length c, .int .i64 nx] ∧ ts.length ≤ c ∧ k70.C W A ts.length ts ∧ (∀ t ∈ ts, TabWf2 t) ∧ (-9223372036854775808 ≤ v ∧ v < 9223372036854775808) ∧ (-9223372036854775808 ≤ nx ∧ nx < 9223372036854775808) := by
  obtain ⟨hl, hf⟩ := struct_get Tryd.underlying28 h
  rw [cells28] at hl
  obtain ⟨c0, c1, c2, rfl⟩ : ∃ c0 c1 c2, cs = [c0, c1, c2] := by
    match cs, hl with
    | [a, b, c], _ => exact ⟨a, b, c, rfl⟩
  obtain ⟨y0, n0, h0⟩ := hf 0 3 0 1 rfl cells3
  obtain ⟨x0, hx0, w0⟩ := (opens_int Tryd.underlying3) H enc W base spare held n0 [c0] y0 h0
  obtain ⟨y1, n1, h1⟩ := hf 1 26 1 1 rfl cells26
  obtain ⟨x1, hx1, w1⟩ := opens26r H enc W base spare held n1 [c1] y1 h1
  obtain ⟨y2, n2, h2⟩ := hf 2 3 2 1 rfl cells3
  obtain ⟨x2, hx2, w2⟩ := (opens_int Tryd.underlying3) H enc W base spare held n2 [c2] y2 h2
  injection hx0 with e0
  injection hx2 with e2
  obtain ⟨A, c, e1, l1, g1⟩ := hx1
  injection e1 with e1
  subst e0 e1 e2
  exact ⟨x0, x1, x2, A, c, rfl, l1, g1, w1, wf_i w0, wf_i w2⟩
end Go.Proofs.YtjgomlcdmpcoaaaDoor.H
namespace Go.Proofs.YtjgomlcdmpcoaaaDoor.H
open Go.RowKit Go.Proofs.YtjgomlcdmpcoaaaDoorW.PrintWords Go.Proofs.YtjgomlcdmpcoaaaDoorW.PrintLast Go.Proofs.YtjgomlcdmpcoaaaDoorW.PrintMore
open Go.Proofs.YtjgomlcdmpcoaaaDoor.D Go.Proofs.YtjgomlcdmpcoaaaDoor
set_option linter.unusedVariables false
theorem columnB_ok {c : S75} (h : columnB c = true) (hw : ColWf2 c) : ColOk c := by
  obtain ⟨⟨a0, a1, a2, a3⟩, b2, b3, b4, d0, d1, d2, d3⟩ := hw
  have q := Bool.and_eq_true_iff.mp h
  have v := (Bool.and_eq_true_iff.mp (Bool.and_eq_true_iff.mp (Bool.and_eq_true_iff.mp (Bool.and_eq_true_iff.mp (Bool.and_eq_true_iff.mp q.2).2).2).2).2).1
  exact ⟨⟨a0, a1⟩, Nat.le_trans (nameB_size q.1) (by omega), b2, b3, b4, d0, d1, d2, Nat.le_trans (valB_size v) (by omega)⟩
theorem indexB_ok {t : S70} {x : S98} (h : indexB t x = true) (hw : IndWf2 x) : IndOk x := by
  obtain ⟨⟨a0, a1, a2⟩, b2, b4⟩ := hw
  have q := Bool.and_eq_true_iff.mp h
  have v := of_decide_eq_true (Bool.and_eq_true_iff.mp (Bool.and_eq_true_iff.mp q.2).2).1
  exact ⟨⟨a0, a1⟩, Nat.le_trans (nameB_size q.1) (by omega), by omega, b2, b4⟩
theorem tableB_ok {t : S70} (h : tableB t = true) (hw : TabWf2 t) : TabOk t := by
  obtain ⟨a, b0, b2, b3, b4⟩ := hw
  have q2 := Bool.and_eq_true_iff.mp (Bool.and_eq_true_iff.mp (Bool.and_eq_true_iff.mp (Bool.and_eq_true_iff.mp h).2).2).2
  have q3 := Bool.and_eq_true_iff.mp q2.2
  have q4 := Bool.and_eq_true_iff.mp q3.2
  have q5 := Bool.and_eq_true_iff.mp q4.2
  have q6 := Bool.and_eq_true_iff.mp q5.2
  have n2 := of_decide_eq_true q2.1
  have n3 := of_decide_eq_true q3.1
  exact ⟨b0, Nat.le_trans (nameB_size q4.1) (by omega), by omega, fun c hc => columnB_ok (tcolsB_all _ _ _ q5.1 c hc) (b2 c hc), by omega, fun x hx => indexB_ok (tindsB_all _ _ _ q6.1 x hx) (b3 x hx), b4⟩
theorem schB_read (v : Int) (ts : List S70) (nx : Int) (h : schB v ts nx = true) (hw : ∀ t ∈ ts, TabWf2 t) : rdSch (putL v ts nx) = some ((v, ts, nx), []) := by
  have q0 := Bool.and_eq_true_iff.mp h
  have q1 := Bool.and_eq_true_iff.mp q0.2
  have q2 := Bool.and_eq_true_iff.mp q1.2
  have q3 := Bool.and_eq_true_iff.mp q2.2
  have q4 := Bool.and_eq_true_iff.mp q3.2
  have n0 := of_decide_eq_true q0.1
  have n1 := of_decide_eq_true q1.1
  have n2 := of_decide_eq_true q2.1
  have n3 := of_decide_eq_true q3.1
  have n4 := of_decide_eq_true q4.1
  exact rdSch_putL v ts nx (by unfold I64; constructor <;> omega) (by unfold I64; constructor <;> omega) (by omega) (fun t ht => tableB_ok (tabsB_all _ _ _ q4.2 t ht) (hw t ht))
end Go.Proofs.YtjgomlcdmpcoaaaDoor.H
namespace Go.Proofs.YtjgomlcdmpcoaaaDoor.H
open Go.RowKit Go.Proofs.YtjgomlcdmpcoaaaDoorW.PrintWords Go.Proofs.YtjgomlcdmpcoaaaDoorW.PrintLast Go.Proofs.YtjgomlcdmpcoaaaDoorW.PrintMore
open Go.Proofs.YtjgomlcdmpcoaaaDoor.D Go.Proofs.YtjgomlcdmpcoaaaDoor
set_option linter.unusedVariables false
set_option linter.unusedSimpArgs false
def InL (l : List Int) : Prop := InB l ∧ l.length ≤ 30000
theorem InL.drop {l : List Int} (h : InL l) (n : Nat) : InL (l.drop n) := ⟨h.1.drop n, by rw [List.length_drop]; have := h.2; omega⟩
end Go.Proofs.YtjgomlcdmpcoaaaDoor.H




namespace Go.Proofs.YtjgomlcdmpcoaaaDoor.H
open Go.RowKit Go.Proofs.YtjgomlcdmpcoaaaDoorW.PrintWords Go.Proofs.YtjgomlcdmpcoaaaDoorW.PrintLast Go.Proofs.YtjgomlcdmpcoaaaDoorW.PrintMore
open Go.Proofs.YtjgomlcdmpcoaaaDoor.D Go.Proofs.YtjgomlcdmpcoaaaDoor
set_option linter.unusedVariables false
theorem InB.app {l m : List Int} (h : InB l) (k : InB m) : InB (l ++ m) := fun x hx => (List.mem_append.mp hx).elim (h x) (k x)
theorem InB.flat {α : Type} {f : α → List Int} (h : ∀ a, InB (f a)) (l : List α) : InB (l.flatMap f) := fun x hx => by
  obtain ⟨a, _, ha⟩ := List.mem_flatMap.mp hx
  exact h a x ha
theorem bytesOf_in (s : ByteArray) : InB (bytesOf s) := fun x hx => by
  unfold bytesOf at hx
  obtain ⟨y, _, rfl⟩ := List.mem_map.1 hx
  have := y.toNat_lt
  exact ⟨by omega, by omega⟩
theorem tx_inB (s : ByteArray) : InB (tx s) := InB.app (e8_in _) (bytesOf_in s)
theorem colL_in (c : S75) : InB (colL c) :=
  InB.app (e8_in _) (InB.app (tx_inB _) (InB.app (e8_in _) (InB.app (e8_in _) (InB.app (e8_in _) (InB.app (e8_in _) (InB.app (e8_in _) (InB.app (e8_in _) (tx_inB _))))))))
theorem indL_in (x : S98) : InB (indL x) :=
  InB.app (e8_in _) (InB.app (tx_inB _) (InB.app (e8_in _) (InB.app (InB.flat (fun n => e8_in _) _) (InB.app (e8_in _) (e8_in _)))))
theorem tabL_in (t : S70) : InB (tabL t) :=
  InB.app (e8_in _) (InB.app (tx_inB _) (InB.app (e8_in _) (InB.app (InB.flat colL_in _) (InB.app (e8_in _) (InB.app (InB.flat indL_in _) (e8_in _))))))
theorem putL_in (v : Int) (ts : List S70) (nx : Int) : InB (putL v ts nx) := InB.app (e8_in _) (InB.app (e8_in _) (InB.app (InB.flat tabL_in _) (e8_in _)))
theorem dget_put (v : Int) (ts : List S70) (nx : Int) (w : World) (hG : GL w) (h : schB v ts nx = true) (hw : ∀ t ∈ ts, TabWf2 t) :
    Calls Tryd.prog 44 #[.string (putS v ts nx)] w fun e w' => Below w.heap.size w w' ∧ ∃ A c, e = .returned (.tuple #[.agg #[.int .i64 v, .slice A ts.length c, .int .i64 nx], .int .i64 0]) ∧ k70.R 70 w' w.heap.size (fun _ => True) (.slice A ts.length c) ts := by
  have hs : putS v ts nx = sealB (strOfNums (putL v ts nx)) := by unfold putS; rw [if_pos h]
  have he : putE v ts nx = 0 := by unfold putE; rw [if_pos h]
  have hb : bytesOf (bodyOf (putS v ts nx)) = putL v ts nx := by rw [hs, body_seal, bytes_back _ (putL_in v ts nx)]
  have hr := schB_read v ts nx h hw
  have hz : (putS v ts nx).size ≤ 25000 := by
    have := (schB_len h).1
    rw [hs, seal_size, strOfNums_size]
    omega
  have hseal : isSeal (putS v ts nx) := by rw [hs]; exact isSeal_seal _
  have key := dget_read (putS v ts nx) w hG hz hseal (fun v' ts' nx' r' q t ht => by
    rw [hb, hr] at q
    injection q with q
    have e1 : ts = ts' := (Prod.mk.inj (Prod.mk.inj (Prod.mk.inj q).1).2).1
    subst e1
    exact (hw t ht).1)
  rw [hb, hr] at key
  refine key.mono ?_
  rintro e w' ⟨hB, hP⟩
  refine ⟨hB, ?_⟩
  rcases hP with ⟨_, _, k⟩ | ⟨k, _⟩
  · exact k
  · exact (k ⟨he, rfl⟩).elim
end Go.Proofs.YtjgomlcdmpcoaaaDoor.H
