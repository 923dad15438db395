/- Own texts of this session, packed by its program wip/pp/pack.py: lemmas and walks of functions. -/
import Derived.Deep.RegionLaw
import Derived.Deep.QuietTactic
import Derived.BigQuiet
import Derived.Test.YtjgomlcdmpcoaaaDoorKBack1
import Derived.Test.YtjgomlcdmpcoaaaDoorKBack2
import Derived.Test.YtjgomlcdmpcoaaaDoorKBack3
namespace Go.Proofs.YtjgomlcdmpcoaaaDoor.H
open Go.RowKit Go.Proofs.YtjgomlcdmpcoaaaDoorW.PrintWords Go.Proofs.YtjgomlcdmpcoaaaDoorW.PrintLast Go.Proofs.YtjgomlcdmpcoaaaDoorW.PrintMore
open Go.Proofs.YtjgomlcdmpcoaaaDoor.D Go.Proofs.YtjgomlcdmpcoaaaDoor
set_option linter.unusedVariables false
set_option linter.unusedSimpArgs false
def St (T : TypeId) (g : Nat) (w0 W : World) (cur : List Int) (L : List (Nat × Array Value × TypeId)) : Prop :=
  WB T W g cur ∧ Wr g w0 W ∧ ∀ p ∈ L, p.2.2 ≠ 5 ∧ p.1 ≠ g ∧ W.heap[p.1]? = some (.cells p.2.1 p.2.2 (0, 0))
section
variable {T : TypeId} {g : Nat} {w0 W W2 : World} {cur cur2 : List Int} {L : List (Nat × Array Value × TypeId)} {p : Nat × Array Value × TypeId}
theorem St.step (h : St T g w0 W cur L) (ha : WB T W2 g cur2) (hb : Wr g W W2) : St T g w0 W2 cur2 L :=
  ⟨ha, h.2.1.trans hb, fun p hp => let q := h.2.2 p hp; ⟨q.1, q.2.1, hb.cells q.2.2 q.1 q.2.1⟩⟩
theorem St.lt (h : St T g w0 W cur L) : g < W.heap.size := h.1.lt
theorem St.box (h : St T g w0 W cur L) (cs : Array Value) (t : TypeId) (ht : t ≠ 5) : St T g w0 (W.alloc (.cells cs t)) cur ((W.heap.size, cs, t) :: L) := by
  have hb := below_alloc (Below.refl _ W) (.cells cs t)
  refine ⟨h.1.below hb, h.2.1.trans (Wr.of_below hb (Nat.le_of_lt h.1.lt)), fun p hp => ?_⟩
  rcases List.mem_cons.1 hp with rfl | hp
  · exact ⟨ht, (Nat.ne_of_lt h.1.lt).symm, heap_alloc_new W _⟩
  · have q := h.2.2 p hp
    exact ⟨q.1, q.2.1, blk_alloc q.2.2 _⟩
theorem St.pop (h : St T g w0 W cur (p :: L)) : St T g w0 W cur L := ⟨h.1, h.2.1, fun q hq => h.2.2 q (List.mem_cons_of_mem _ hq)⟩
theorem St.head (h : St T g w0 W cur (p :: L)) {j : Nat} {v : Value} (hj : p.2.1[j]? = some v) : W.cell? ⟨p.1, j, none⟩ = some v := blk_cell (h.2.2 p List.mem_cons_self).2.2 hj
end
theorem fm_take {α : Type} (f : α → List Int) (l : List α) (k : Nat) (h : k < l.length) : (l.take (k + 1)).flatMap f = (l.take k).flatMap f ++ f l[k] := by
  rw [List.take_succ_eq_append_getElem h, List.flatMap_append]
  simp
theorem fm_le {α : Type} (f : α → List Int) (l : List α) (k : Nat) (h : k < l.length) : ((l.take k).flatMap f).length + (f l[k]).length ≤ (l.flatMap f).length := by
  have h1 := fm_take f l k h
  have h2 : (l.flatMap f).length = ((l.take (k + 1)).flatMap f).length + ((l.drop (k + 1)).flatMap f).length := by
    rw [← List.length_append, ← List.flatMap_append, List.take_append_drop]
  rw [h2, h1, List.length_append]
  omega
def colsL (l : List S75) : List Int := l.flatMap colL
def intL (n : Int) : List Int := e8 (un64 n)
def intsL (l : List Int) : List Int := l.flatMap intL
def indL (x : S98) : List Int := e8 (un64 x.f0) ++ (tx x.f1 ++ (e8 (un64 x.f2.length) ++ (intsL x.f2 ++ (e8 (tru x.f3) ++ e8 (un64 x.f4)))))
def indsL (l : List S98) : List Int := l.flatMap indL
def tabL (t : S70) : List Int := e8 (un64 t.f0) ++ (tx t.f1 ++ (e8 (un64 t.f2.length) ++ (colsL t.f2 ++ (e8 (un64 t.f3.length) ++ (indsL t.f3 ++ e8 (un64 t.f4))))))
theorem indL_len (x : S98) : (indL x).length = 40 + x.f1.size + (intsL x.f2).length := by unfold indL; simp only [List.length_append, e8_len, tx_len]; omega
theorem tabL_len (t : S70) : (tabL t).length = 40 + t.f1.size + (colsL t.f2).length + (indsL t.f3).length := by unfold tabL; simp only [List.length_append, e8_len, tx_len]; omega
set_option maxRecDepth 100000 in
set_option maxHeartbeats 16000000 in
theorem table_calls (W0 : World) (g : Nat) (bs : List Int) (t : S70) (A2 : Option Addr) (c2 : Nat) (A3 : Option Addr) (c3 : Nat) (w : World) (hw : WB 112 w g bs) (h0 : Below W0.heap.size W0 w) (hgW : W0.heap.size ≤ g)
    (h2 : k75.C W0 A2 t.f2.length t.f2) (h3 : k98.C W0 A3 t.f3.length t.f3) (hlen : bs.length + (tabL t).length ≤ 1000000000) :
    Calls Tryd.prog 77 #[.pointer (some ⟨g, 0, none⟩), .agg #[.int .i64 t.f0, .string t.f1, .slice A2 t.f2.length c2, .slice A3 t.f3.length c3, .int .i64 t.f4]] w
      fun e w' => e = .returned (.tuple #[]) ∧ WB 112 w' g (bs ++ tabL t) ∧ Wr g w w' := by
  have HS := Aside0.mk (St.box (w0 := w) (L := []) ⟨hw, Wr.refl _ _, fun p hp => by cases hp⟩ #[.int .i64 t.f0, .string t.f1, .slice A2 t.f2.length c2, .slice A3 t.f3.length c3, .int .i64 t.f4] 70 (by decide))
  have HC := Aside0.mk h2
  have HX := Aside0.mk h3
  have H0 := Aside0.mk h0
  have HL := Lib.hid hlen
  have big2 := h2.2.1
  have big3 := h3.2.1
  clear hw h0 h2 h3 hlen
  go_enter Tryd.func77, Tryd.ntmps77
  go_wp2_with fail
  refine (num_calls g _ t.f0 _ HS.out.1 (by have := HL.out; rw [tabL_len] at this; (try simp only [List.length_append, e8_len, tx_len]); omega)).mono ?_
  rintro e w2 ⟨rfl, ha, hb⟩
  have n_ := Aside0.mk (HS.out.step ha hb)
  clear HS ha hb
  have HS := n_
  clear n_
  have k1 := HS.out.head (j := 1) (v := .string t.f1) rfl
  go_wp2_with fail
  refine (text_calls g _ t.f1 _ HS.out.1 (by have := HL.out; rw [tabL_len] at this; (try simp only [List.length_append, e8_len, tx_len]); omega)).mono ?_
  rintro e w2 ⟨rfl, ha, hb⟩
  have n_ := Aside0.mk (HS.out.step ha hb)
  clear HS ha hb k1
  have HS := n_
  clear n_
  have k1 := HS.out.head (j := 2) (v := .slice A2 t.f2.length c2) rfl
  go_wp2_with fail
  refine (num_calls g _ t.f2.length _ HS.out.1 (by have := HL.out; rw [tabL_len] at this; (try simp only [List.length_append, e8_len, tx_len]); omega)).mono ?_
  rintro e w2 ⟨rfl, ha, hb⟩
  have n_ := Aside0.mk (HS.out.step ha hb)
  clear HS ha hb k1
  have HS := n_
  clear n_
  have k1 := HS.out.head (j := 2) (v := .slice A2 t.f2.length c2) rfl
  go_wp2_with fail
  obtain ⟨cur, hcur⟩ : ∃ cur, bs ++ e8 (un64 t.f0) ++ tx t.f1 ++ e8 (un64 t.f2.length) = cur := ⟨_, rfl⟩
  rw [hcur] at HS
  have hcl : cur.length = bs.length + 24 + t.f1.size := by rw [← hcur]; simp only [List.length_append, e8_len, tx_len]; omega
  have HCL := Lib.hid hcl
  have HCU := Lib.hid hcur
  clear hcl hcur k1
  go_loopg [5, 26] t.f2.length (fun gg _ u26 wr => ∃ kk : Nat, kk ≤ t.f2.length ∧ t.f2.length - kk ≤ gg ∧ u26 = .int .i64 kk ∧ Aside0 (St 112 g w wr (cur ++ colsL (t.f2.take kk)) [(w.heap.size, #[.int .i64 t.f0, .string t.f1, .slice A2 t.f2.length c2, .slice A3 t.f3.length c3, .int .i64 t.f4], 70)]))
  case atStart => exact ⟨0, Nat.zero_le _, by omega, rfl, ⟨by have := HS.out; rw [← List.append_nil cur] at this; exact this⟩⟩
  case round =>
    obtain ⟨kk, hkk, hgg, rfl, HR⟩ := hrel
    clear HS
    by_cases hlt : kk < t.f2.length
    · have hltz : (kk : Int) < (t.f2.length : Int) := by omega
      have hC := Kd.C_below HC.out (H0.out.trans (HR.out.2.1.below.mono hgW))
      obtain ⟨ad, eA, h0, h1, h2, h3, h4, h5, h6, h7, h8⟩ := at_T75 hC (kk : Int) (by omega) (by omega)
      have hx : rd_T75 t.f2 (kk : Int) = t.f2[kk] := by unfold rd_T75; simp [List.getD, hlt]
      rw [hx] at h0 h1 h2 h3 h4 h5 h6 h7 h8
      simp only [Int.toNat_natCast] at h0 h1 h2 h3 h4 h5 h6 h7 h8
      cases eA
      have hT := Lib.hid (fm_take colL t.f2 kk hlt)
      have hE := Lib.hid (fm_le colL t.f2 kk hlt)
      generalize t.f2[kk] = x at h0 h1 h2 h3 h4 h5 h6 h7 h8 hT hE
      have HS := Aside0.mk (HR.out.box (cells75 x) 75 (by decide))
      clear hx hC HR
      go_wp2_with fail
      refine (column_calls g _ x _ HS.out.1 (by have a1 := HL.out; have a2 := HCL.out; have a3 := hE.out; rw [tabL_len] at a1; rw [colL_len] at a3; rw [List.length_append]; unfold colsL at *; omega)).mono ?_
      rintro e w2 ⟨rfl, ha, hb⟩
      have n_ := Aside0.mk (HS.out.step ha hb)
      clear HS ha hb h0 h1 h2 h3 h4 h5 h6 h7 h8
      have HS := n_
      clear n_
      go_wp2
      go_roundg (t.f2.length - (kk + 1))
      case measure => omega
      case rel => exact ⟨kk + 1, by omega, by omega, by go_num, ⟨by have := HS.out.pop; unfold colsL at this ⊢; rw [hT.out, ← List.append_assoc]; exact this⟩⟩
    · have hltz : ¬ (kk : Int) < (t.f2.length : Int) := by omega
      have hS := HR.out
      rw [List.take_of_length_le (by omega)] at hS
      have HS := Aside0.mk hS
      clear HR hS
      obtain ⟨wo, hwo⟩ : ∃ wo : World, wo = wr := ⟨_, rfl⟩
      subst hwo
      have k2 := HS.out.head (j := 3) (v := .slice A3 t.f3.length c3) rfl
      go_wp2_with fail
      refine (num_calls g _ t.f3.length _ HS.out.1 (by have := HL.out; have := HCL.out; rw [tabL_len] at *; (try simp only [List.length_append, e8_len, tx_len]); omega)).mono ?_
      rintro e w2 ⟨rfl, ha, hb⟩
      have n_ := Aside0.mk (HS.out.step ha hb)
      clear HS ha hb k2
      have HS := n_
      clear n_
      have k1 := HS.out.head (j := 3) (v := .slice A3 t.f3.length c3) rfl
      go_wp2_with fail
      obtain ⟨cu2, hcu2⟩ : ∃ cu2, cur ++ colsL t.f2 ++ e8 (un64 t.f3.length) = cu2 := ⟨_, rfl⟩
      rw [hcu2] at HS
      have hcl2 : cu2.length = bs.length + 32 + t.f1.size + (colsL t.f2).length := by rw [← hcu2]; simp only [List.length_append, e8_len, tx_len]; have := HCL.out; omega
      have HCL2 := Lib.hid hcl2
      have HCU2 := Lib.hid hcu2
      clear hcl2 hcu2 k1
      go_loopg [7, 42] t.f3.length (fun gg _ u42 wr => ∃ kk : Nat, kk ≤ t.f3.length ∧ t.f3.length - kk ≤ gg ∧ u42 = .int .i64 kk ∧ Aside0 (St 112 g w wr (cu2 ++ indsL (t.f3.take kk)) [(w.heap.size, #[.int .i64 t.f0, .string t.f1, .slice A2 t.f2.length c2, .slice A3 t.f3.length c3, .int .i64 t.f4], 70)]))
      case atStart => exact ⟨0, Nat.zero_le _, by omega, rfl, ⟨by have := HS.out; rw [← List.append_nil cu2] at this; exact this⟩⟩
      case round =>
        obtain ⟨kk, hkk, hgg, rfl, HR⟩ := hrel
        clear HS
        by_cases hlt : kk < t.f3.length
        · have hltz : (kk : Int) < (t.f3.length : Int) := by omega
          have hBW := H0.out.trans (HR.out.2.1.below.mono hgW)
          obtain ⟨ad, B2, d2, eA, h0, h1, h2, h3, h4, hd2, hcols⟩ := at_T98 HX.out (kk : Int) (by omega) (by omega)
          have hx : rd_T98 t.f3 (kk : Int) = t.f3[kk] := by unfold rd_T98; simp [List.getD, hlt]
          rw [hx] at h0 h1 h2 h3 h4 hd2 hcols
          simp only [Int.toNat_natCast] at h0 h1 h2 h3 h4
          replace h0 := pw_cell_below hBW h0
          replace h1 := pw_cell_below hBW h1
          replace h2 := pw_cell_below hBW h2
          replace h3 := pw_cell_below hBW h3
          replace h4 := pw_cell_below hBW h4
          cases eA
          have hT := Lib.hid (fm_take indL t.f3 kk hlt)
          have hE := Lib.hid (fm_le indL t.f3 kk hlt)
          generalize t.f3[kk] = x at h0 h1 h2 h3 h4 hd2 hcols hT hE
          have HS := Aside0.mk (HR.out.box #[.int .i64 x.f0, .string x.f1, .slice B2 x.f2.length d2, .bool x.f3, .int .i64 x.f4] 98 (by decide))
          have HI := Aside0.mk hcols
          have hbx := hcols.2.1
          have hpre : (cu2 ++ indsL (t.f3.take kk)).length + (indL x).length ≤ 1000000000 := by
            have a1 := HL.out; have a2 := HCL2.out; have a3 := hE.out; rw [tabL_len] at a1; rw [List.length_append]; unfold indsL at *; omega
          obtain ⟨pre, hpr⟩ : ∃ pre, cu2 ++ indsL (t.f3.take kk) = pre := ⟨_, rfl⟩
          rw [hpr] at HS hpre
          have HPR := Lib.hid hpr
          have HPL := Lib.hid hpre
          clear hx hcols HR hBW hpr hpre
          go_wp2_with fail
          refine (num_calls g _ x.f0 _ HS.out.1 (by have := HPL.out; rw [indL_len] at this; (try simp only [List.length_append, e8_len, tx_len]); omega)).mono ?_
          rintro e w2 ⟨rfl, ha, hb⟩
          have n_ := Aside0.mk (HS.out.step ha hb)
          clear HS ha hb h0 h1 h2 h3 h4
          have HS := n_
          clear n_
          have k1 := HS.out.head (j := 1) (v := .string x.f1) rfl
          go_wp2_with fail
          refine (text_calls g _ x.f1 _ HS.out.1 (by have := HPL.out; rw [indL_len] at this; (try simp only [List.length_append, e8_len, tx_len]); omega)).mono ?_
          rintro e w2 ⟨rfl, ha, hb⟩
          have n_ := Aside0.mk (HS.out.step ha hb)
          clear HS ha hb k1
          have HS := n_
          clear n_
          have k1 := HS.out.head (j := 2) (v := .slice B2 x.f2.length d2) rfl
          go_wp2_with fail
          refine (num_calls g _ x.f2.length _ HS.out.1 (by have := HPL.out; rw [indL_len] at this; (try simp only [List.length_append, e8_len, tx_len]); omega)).mono ?_
          rintro e w2 ⟨rfl, ha, hb⟩
          have n_ := Aside0.mk (HS.out.step ha hb)
          clear HS ha hb k1
          have HS := n_
          clear n_
          have k1 := HS.out.head (j := 2) (v := .slice B2 x.f2.length d2) rfl
          go_wp2_with fail
          obtain ⟨cu3, hcu3⟩ : ∃ cu3, pre ++ e8 (un64 x.f0) ++ tx x.f1 ++ e8 (un64 x.f2.length) = cu3 := ⟨_, rfl⟩
          rw [hcu3] at HS
          have hcl3 : cu3.length = pre.length + 24 + x.f1.size := by rw [← hcu3]; simp only [List.length_append, e8_len, tx_len]; omega
          have HCL3 := Lib.hid hcl3
          have HCU3 := Lib.hid hcu3
          clear hcl3 hcu3 k1
          obtain ⟨wq, hwq⟩ : ∃ wq : World, wq = wr := ⟨_, rfl⟩
          subst hwq
          go_loopg [9, 62] x.f2.length (fun gg _ u62 wr => ∃ jj : Nat, jj ≤ x.f2.length ∧ x.f2.length - jj ≤ gg ∧ u62 = .int .i64 jj ∧ Aside0 (St 112 g w wr (cu3 ++ intsL (x.f2.take jj)) [(wq.heap.size, #[.int .i64 x.f0, .string x.f1, .slice B2 x.f2.length d2, .bool x.f3, .int .i64 x.f4], 98), (w.heap.size, #[.int .i64 t.f0, .string t.f1, .slice A2 t.f2.length c2, .slice (some ad) t.f3.length c3, .int .i64 t.f4], 70)]))
          case atStart => exact ⟨0, Nat.zero_le _, by omega, rfl, ⟨by have := HS.out; rw [← List.append_nil cu3] at this; exact this⟩⟩
          case round =>
            obtain ⟨jj, hjj, hjg, rfl, HR⟩ := hrel
            clear HS
            by_cases hlj : jj < x.f2.length
            · have hljz : (jj : Int) < (x.f2.length : Int) := by omega
              obtain ⟨ad3, eB, hcell⟩ := (Kd.reads_of_C (enc := Value.int .i64) (d := (0 : Int)) (h1 := fun _ => rfl) HI.out).at_ (jj : Int) (by omega) (by omega)
              have hy : rdOf (0 : Int) x.f2 (jj : Int) = x.f2[jj] := by simp [rdOf, List.getD, hlj]
              rw [hy, Int.toNat_natCast] at hcell
              replace hcell := pw_cell_below (H0.out.trans (HR.out.2.1.below.mono hgW)) hcell
              cases eB
              have hT3 := Lib.hid (fm_take intL x.f2 jj hlj)
              have hE3 := Lib.hid (fm_le intL x.f2 jj hlj)
              generalize x.f2[jj] = y at hcell hT3 hE3
              have HS := HR
              clear hy HR
              go_wp2_with fail
              refine (num_calls g _ y _ HS.out.1 (by have a1 := HPL.out; have a2 := HCL3.out; have a3 := hE3.out; rw [indL_len] at a1; rw [List.length_append]; unfold intsL at *; have a4 : (intL y).length = 8 := rfl; omega)).mono ?_
              rintro e w2 ⟨rfl, ha, hb⟩
              have n_ := Aside0.mk (HS.out.step ha hb)
              clear HS ha hb hcell
              have HS := n_
              clear n_
              go_wp2
              go_roundg (x.f2.length - (jj + 1))
              case measure => omega
              case rel => exact ⟨jj + 1, by omega, by omega, by go_num, ⟨by have := HS.out; unfold intsL at this ⊢; rw [hT3.out, ← List.append_assoc]; exact this⟩⟩
            · have hljz : ¬ (jj : Int) < (x.f2.length : Int) := by omega
              have hS := HR.out
              rw [List.take_of_length_le (by omega)] at hS
              have HS := Aside0.mk hS
              clear HR hS
              have k2 := HS.out.head (j := 3) (v := .bool x.f3) rfl
              go_wp2_with fail
              refine (truth_calls g _ x.f3 _ HS.out.1 (by have a1 := HPL.out; have a2 := HCL3.out; rw [indL_len] at a1; (try simp only [List.length_append, e8_len, tx_len]); omega)).mono ?_
              rintro e w2 ⟨rfl, ha, hb⟩
              have n_ := Aside0.mk (HS.out.step ha hb)
              clear HS ha hb k2
              have HS := n_
              clear n_
              have k1 := HS.out.head (j := 4) (v := .int .i64 x.f4) rfl
              go_wp2_with fail
              refine (num_calls g _ x.f4 _ HS.out.1 (by have a1 := HPL.out; have a2 := HCL3.out; rw [indL_len] at a1; (try simp only [List.length_append, e8_len, tx_len]); omega)).mono ?_
              rintro e w2 ⟨rfl, ha, hb⟩
              have n_ := Aside0.mk (HS.out.step ha hb)
              clear HS ha hb k1
              have HS := n_
              clear n_
              go_wp2
              go_roundg (t.f3.length - (kk + 1))
              case measure => omega
              case rel =>
                refine ⟨kk + 1, by omega, by omega, by go_num, ⟨?_⟩⟩
                have := HS.out.pop
                rw [← HCU3.out, ← HPR.out] at this
                unfold indsL at this ⊢
                rw [hT.out]
                unfold indL
                simp only [List.append_assoc] at this ⊢
                exact this
        · have hltz : ¬ (kk : Int) < (t.f3.length : Int) := by omega
          have hS := HR.out
          rw [List.take_of_length_le (by omega)] at hS
          have HS := Aside0.mk hS
          clear HR hS
          have k2 := HS.out.head (j := 4) (v := .int .i64 t.f4) rfl
          go_wp2_with fail
          refine (num_calls g _ t.f4 _ HS.out.1 (by have a1 := HL.out; have a2 := HCL2.out; rw [tabL_len] at a1; rw [List.length_append]; omega)).mono ?_
          rintro e w2 ⟨rfl, ha, hb⟩
          have n_ := Aside0.mk (HS.out.step ha hb)
          clear HS ha hb k2
          have HS := n_
          clear n_
          go_wp2
          go_end0
          refine ⟨rfl, ?_, HS.out.2.1⟩
          have := HS.out.1
          rw [← HCU2.out, ← HCU.out] at this
          unfold tabL
          simp only [List.append_assoc] at this ⊢
          exact this
end Go.Proofs.YtjgomlcdmpcoaaaDoor.H


namespace Go.Proofs.YtjgomlcdmpcoaaaDoor.H
open Go.RowKit Go.Proofs.YtjgomlcdmpcoaaaDoorW.PrintWords Go.Proofs.YtjgomlcdmpcoaaaDoorW.PrintLast Go.Proofs.YtjgomlcdmpcoaaaDoorW.PrintMore
open Go.Proofs.YtjgomlcdmpcoaaaDoor.D Go.Proofs.YtjgomlcdmpcoaaaDoor
set_option linter.unusedVariables false
set_option linter.unusedSimpArgs false
theorem bytes_back (l : List Int) (h : ∀ x ∈ l, 0 ≤ x ∧ x < 256) : bytesOf (strOfNums l) = l := by
  unfold bytesOf
  rw [strOfNums_data, List.map_map]
  refine (List.map_congr_left (g := id) fun x hx => ?_).trans (List.map_id l)
  have := h x hx
  show ((UInt8.ofNat x.toNat).toNat : Int) = x
  rw [UInt8.toNat_ofNat']
  omega
theorem e8_in (n : Int) : ∀ x ∈ e8 n, 0 ≤ x ∧ x < 256 := by
  intro x hx
  simp only [e8, List.mem_cons, List.not_mem_nil, or_false] at hx
  omega
end Go.Proofs.YtjgomlcdmpcoaaaDoor.H


namespace Go.Proofs.YtjgomlcdmpcoaaaDoor.H
open Go.RowKit Go.Proofs.YtjgomlcdmpcoaaaDoorW.PrintWords Go.Proofs.YtjgomlcdmpcoaaaDoorW.PrintLast Go.Proofs.YtjgomlcdmpcoaaaDoorW.PrintMore
set_option linter.unusedVariables false
set_option maxRecDepth 100000 in
set_option maxHeartbeats 1000000 in
theorem sget_ok (t : ByteArray) (w : World) (hs : t.size ≤ maxLen) (h4 : 4 ≤ t.size) (hb : sealB (t.extract 0 (t.size - 4)) = t) :
    Calls Tryd.prog 86 #[.string t] w fun e w' => e = .returned (.tuple #[.string (t.extract 0 (t.size - 4)), .int .i64 0]) ∧ Below w.heap.size w w' := by
  have hc := Lib.hid (seal_calls (t.extract 0 (t.size - 4)) w (by unfold maxLen at hs ⊢; rw [ByteArray.size_extract]; omega))
  unfold maxLen at hs
  rw [hb] at hc
  clear hb
  go_enter Tryd.func86, Tryd.ntmps86
  go_wp2_with fail
  refine hc.out.mono ?_
  rintro e w' ⟨rfl, hb1⟩
  go_wp2
  go_ret2
  exact ⟨rfl, hb1⟩
def isSeal (t : ByteArray) : Prop := 4 ≤ t.size ∧ sealB (t.extract 0 (t.size - 4)) = t
theorem seal_extract (p : ByteArray) : (sealB p).extract 0 ((sealB p).size - 4) = p := by
  refine ByteArray.ext (Array.toList_inj.mp ?_)
  rw [seal_size, Nat.add_sub_cancel, ByteArray.data_extract, Array.toList_extract, seal_list, List.extract_eq_take_drop]
  simp
theorem isSeal_seal (p : ByteArray) : isSeal (sealB p) := by
  refine ⟨by rw [seal_size]; omega, ?_⟩
  rw [seal_extract]
end Go.Proofs.YtjgomlcdmpcoaaaDoor.H
namespace Go.Proofs.YtjgomlcdmpcoaaaDoor.H
open Go.RowKit Go.Proofs.YtjgomlcdmpcoaaaDoorW.PrintWords Go.Proofs.YtjgomlcdmpcoaaaDoorW.PrintLast Go.Proofs.YtjgomlcdmpcoaaaDoorW.PrintMore
set_option linter.unusedVariables false
set_option linter.unusedSimpArgs false
theorem nums_ext (l1 l2 l3 : List Int) (i j : Nat) (hi : i = l1.length) (hj : j = l1.length + l2.length) : (strOfNums (l1 ++ (l2 ++ l3))).extract i j = strOfNums l2 := by
  subst hi hj
  refine ByteArray.ext (Array.toList_inj.mp ?_)
  rw [ByteArray.data_extract, Array.toList_extract, strOfNums_data, strOfNums_data, List.extract_eq_take_drop, List.map_append, List.map_append, List.drop_left' (by rw [List.length_map]), Nat.add_sub_cancel_left, List.take_left' (by rw [List.length_map])]
theorem be_e8 (n : Int) (h0 : 0 ≤ n) (h1 : n < 18446744073709551616) : beL 0 (e8 n) = n := by
  show (((((((((0 : Int) * 256 + n / 72057594037927936 % 256) * 256 + n / 281474976710656 % 256) * 256 + n / 1099511627776 % 256) * 256 + n / 4294967296 % 256) * 256 + n / 16777216 % 256) * 256 + n / 65536 % 256) * 256 + n / 256 % 256) * 256 + n % 256) = n
  have a1 : (0 : Int) * 256 + n / 72057594037927936 % 256 = n / 72057594037927936 := by omega
  have a2 : n / 72057594037927936 * 256 + n / 281474976710656 % 256 = n / 281474976710656 := by omega
  have a3 : n / 281474976710656 * 256 + n / 1099511627776 % 256 = n / 1099511627776 := by omega
  have a4 : n / 1099511627776 * 256 + n / 4294967296 % 256 = n / 4294967296 := by omega
  have a5 : n / 4294967296 * 256 + n / 16777216 % 256 = n / 16777216 := by omega
  have a6 : n / 16777216 * 256 + n / 65536 % 256 = n / 65536 := by omega
  have a7 : n / 65536 * 256 + n / 256 % 256 = n / 256 := by omega
  rw [a1, a2, a3, a4, a5, a6, a7]
  omega
theorem un_in (a : Int) : 0 ≤ un64 a ∧ un64 a < 18446744073709551616 := by unfold un64; omega
theorem wrap_un (a : Int) (h0 : -9223372036854775808 ≤ a) (h1 : a < 9223372036854775808) : wrap64 (un64 a) = a := by unfold wrap64 un64; omega
theorem strOf_bytes (s : ByteArray) : strOfNums (bytesOf s) = s := by
  refine ByteArray.ext (Array.toList_inj.mp ?_)
  rw [strOfNums_data]
  unfold bytesOf
  rw [List.map_map]
  refine (List.map_congr_left (g := id) fun x _ => ?_).trans (List.map_id _)
  simp
def bodyOf (s : ByteArray) : ByteArray := s.extract 0 (s.size - 4)
theorem body_seal (p : ByteArray) : bodyOf (sealB p) = p := seal_extract p
end Go.Proofs.YtjgomlcdmpcoaaaDoor.H
namespace Go.Proofs.YtjgomlcdmpcoaaaDoor.H
open Go.RowKit Go.Proofs.YtjgomlcdmpcoaaaDoorW.PrintWords Go.Proofs.YtjgomlcdmpcoaaaDoorW.PrintLast Go.Proofs.YtjgomlcdmpcoaaaDoorW.PrintMore
open Go.Proofs.YtjgomlcdmpcoaaaDoor.D Go.Proofs.YtjgomlcdmpcoaaaDoor
set_option linter.unusedVariables false
set_option linter.unusedSimpArgs false
def tabsL (l : List S70) : List Int := l.flatMap tabL
def putL (v : Int) (ts : List S70) (nx : Int) : List Int := e8 (un64 v) ++ (e8 (un64 ts.length) ++ (tabsL ts ++ e8 (un64 nx)))
theorem putL_len (v : Int) (ts : List S70) (nx : Int) : (putL v ts nx).length = 24 + (tabsL ts).length := by unfold putL; simp only [List.length_append, e8_len]; omega
theorem nameB_size {s : ByteArray} (h : nameB s = true) : s.size ≤ 16 := by
  rw [nameB_if] at h
  simp only [Bool.and_eq_true, decide_eq_true_eq] at h
  exact h.2.1
theorem toList_size {s : ByteArray} (h : s.toList = []) : s.size = 0 := by
  rw [ByteArray.toList_eq] at h
  have : s.data.toList.length = 0 := by rw [h]; rfl
  rw [Array.length_toList] at this
  exact this
theorem valB_size {v : S73} (h : valB v = true) : v.f3.size ≤ 40 := by
  unfold valB mayB at h
  repeat' split at h
  all_goals simp only [Bool.and_eq_true, beq_iff_eq, decide_eq_true_eq, Bool.false_eq_true] at h
  all_goals first
    | (have := toList_size h.2.2; omega)
    | (have := toList_size h.2; omega)
    | exact h.1
theorem columnB_len {c : S75} (h : columnB c = true) : (colL c).length ≤ 128 := by
  unfold columnB at h
  simp only [Bool.and_eq_true] at h
  have h1 := nameB_size h.1
  have h2 := valB_size h.2.2.2.2.2.1
  rw [colL_len]
  omega
theorem fm_max {α : Type} (f : α → List Int) (m : Nat) : ∀ l : List α, (∀ x ∈ l, (f x).length ≤ m) → (l.flatMap f).length ≤ l.length * m
  | [], _ => by simp
  | x :: l, h => by
    have h1 := fm_max f m l (fun y hy => h y (List.mem_cons_of_mem _ hy))
    have h2 := h x List.mem_cons_self
    rw [List.flatMap_cons, List.length_append, List.length_cons, Nat.succ_mul]
    omega
theorem indexB_len {t : S70} {x : S98} (h : indexB t x = true) : (indL x).length ≤ 120 := by
  unfold indexB at h
  simp only [Bool.and_eq_true, decide_eq_true_eq] at h
  have h1 := nameB_size h.1
  have h2 : (intsL x.f2).length ≤ x.f2.length * 8 := fm_max intL 8 x.f2 (fun y _ => Nat.le_refl _)
  have h3 := h.2.2.1
  rw [indL_len]
  omega
theorem tcolsB_all {next : Int} : ∀ (l : List S75) (ids : List Int) (ns : List (List UInt8)), tcolsB next ids ns l = true → ∀ c ∈ l, columnB c = true
  | [], _, _, _, c, hc => by cases hc
  | x :: l, ids, ns, h, c, hc => by
    unfold tcolsB at h
    simp only [Bool.and_eq_true] at h
    rcases List.mem_cons.1 hc with rfl | hc
    · exact h.2.2.1
    · exact tcolsB_all l _ _ h.2.2.2 c hc
theorem tindsB_all {t : S70} : ∀ (l : List S98) (ids : List Int) (ns : List (List UInt8)), tindsB t ids ns l = true → ∀ c ∈ l, indexB t c = true
  | [], _, _, _, c, hc => by cases hc
  | x :: l, ids, ns, h, c, hc => by
    unfold tindsB at h
    simp only [Bool.and_eq_true] at h
    rcases List.mem_cons.1 hc with rfl | hc
    · exact h.2.2.1
    · exact tindsB_all l _ _ h.2.2.2 c hc
theorem tableB_len {t : S70} (h : tableB t = true) : (tabL t).length ≤ 2000 := by
  unfold tableB at h
  simp only [Bool.and_eq_true, decide_eq_true_eq] at h
  obtain ⟨_, _, _, h4, h5, h6, h7, h8, _⟩ := h
  have a1 := nameB_size h6
  have a2 : (colsL t.f2).length ≤ t.f2.length * 128 := fm_max colL 128 t.f2 (fun c hc => columnB_len (tcolsB_all _ _ _ h7 c hc))
  have a3 : (indsL t.f3).length ≤ t.f3.length * 120 := fm_max indL 120 t.f3 (fun c hc => indexB_len (tindsB_all _ _ _ h8 c hc))
  rw [tabL_len]
  omega
theorem tabsB_all {nx : Int} : ∀ (l : List S70) (last : Int) (ns : List (List UInt8)), tabsB nx last ns l = true → ∀ t ∈ l, tableB t = true
  | [], _, _, _, c, hc => by cases hc
  | x :: l, ids, ns, h, c, hc => by
    unfold tabsB at h
    simp only [Bool.and_eq_true] at h
    rcases List.mem_cons.1 hc with rfl | hc
    · exact h.2.2.2.1
    · exact tabsB_all l _ _ h.2.2.2.2 c hc
theorem schB_len {v : Int} {ts : List S70} {nx : Int} (h : schB v ts nx = true) : (putL v ts nx).length ≤ 10000 ∧ ts.length ≤ 4 := by
  unfold schB at h
  simp only [Bool.and_eq_true, decide_eq_true_eq] at h
  obtain ⟨_, _, _, _, h5, h6⟩ := h
  have a2 : (tabsL ts).length ≤ ts.length * 2000 := fm_max tabL 2000 ts (fun c hc => tableB_len (tabsB_all _ _ _ h6 c hc))
  rw [putL_len]
  omega
def putS (v : Int) (ts : List S70) (nx : Int) : ByteArray := if schB v ts nx = true then sealB (strOfNums (putL v ts nx)) else ⟨#[]⟩
def putE (v : Int) (ts : List S70) (nx : Int) : Int := if schB v ts nx = true then 0 else 3
set_option maxRecDepth 100000 in
set_option maxHeartbeats 16000000 in
theorem dput_calls (v : Int) (ts : List S70) (nx : Int) (hwf : ∀ t ∈ ts, TabWf t) (A : Option Addr) (c : Nat) (w : World) (hG : GL w) (g2 : k70.C w A ts.length ts) :
    Calls Tryd.prog 38 #[.agg #[.int .i64 v, .slice A ts.length c, .int .i64 nx]] w fun e w' => e = .returned (.tuple #[.string (putS v ts nx), .int .i64 (putE v ts nx)]) ∧ Below w.heap.size w w' := by
  have hmay := Lib.hid (fun w' hG' hC' => may_calls v ts nx hwf A c w' hG' hC')
  have HC := Aside0.mk g2
  have big2 := g2.2.1
  have HG := Aside0.mk hG
  clear hG
  cases hs : schB v ts nx with
  | false =>
    have h1 : putS v ts nx = ⟨#[]⟩ := by unfold putS; rw [hs]; rfl
    have h2 : putE v ts nx = 3 := by unfold putE; rw [hs]; rfl
    rw [h1, h2]
    rw [hs] at hmay
    clear h1 h2 hs g2 hwf
    go_enter Tryd.func38, Tryd.ntmps38
    go_wp2_with fail
    refine (hmay.out _ (HG.out.of_below (below_alloc (Below.refl _ _) _)) (Kd.C_below HC.out (below_alloc (Below.refl _ _) _))).mono ?_
    rintro e w1 ⟨rfl, hb1⟩
    go_wp2
    go_ret2
    exact ⟨rfl, below_then (below_alloc (Below.refl _ _) _) (by simp) hb1⟩
  | true =>
    obtain ⟨hl, hl4⟩ := schB_len hs
    have h1 : putS v ts nx = sealB (strOfNums (putL v ts nx)) := by unfold putS; rw [hs]; rfl
    have h2 : putE v ts nx = 0 := by unfold putE; rw [hs]; rfl
    rw [h1, h2]
    rw [hs] at hmay
    have HL := Lib.hid hl
    clear h1 h2 hs g2 hwf hl
    go_enter Tryd.func38, Tryd.ntmps38
    go_wp2_with fail
    refine (hmay.out _ (HG.out.of_below (below_alloc (Below.refl _ _) _)) (Kd.C_below HC.out (below_alloc (Below.refl _ _) _))).mono ?_
    rintro e w1 ⟨rfl, hb1⟩
    have hbx := blk_below (heap_alloc_new w (.cells #[.int .i64 v, .slice A ts.length c, .int .i64 nx] 28)) hb1
    have hlt := lt_of_block hbx
    have H0 := Aside0.mk (below_then (below_then (below_alloc (Below.refl _ w) (.cells #[.int .i64 v, .slice A ts.length c, .int .i64 nx] 28)) (by simp) hb1) (Nat.le_of_lt hlt) (below_alloc (Below.refl _ w1) (.cells #[.slice none 0 0] 112)))
    obtain ⟨g, hgg⟩ : ∃ g, g = w1.heap.size := ⟨_, rfl⟩
    have HS := Aside0.mk (show St 112 w1.heap.size (w1.alloc (.cells #[.slice none 0 0] 112)) (w1.alloc (.cells #[.slice none 0 0] 112)) [] [(w.heap.size, #[.int .i64 v, .slice A ts.length c, .int .i64 nx], 28)] from
      ⟨WB.new 112 w1, Wr.refl _ _, fun p hp => by rw [List.mem_singleton.1 hp]; exact ⟨show (28 : Nat) ≠ 5 by decide, Nat.ne_of_lt hlt, blk_alloc hbx _⟩⟩)
    have hgW : w.heap.size ≤ g := by rw [hgg]; exact Nat.le_of_lt hlt
    rw [← hgg] at HS
    have HGG := Lib.hid hgg
    clear hb1 hbx hlt
    have k1 := HS.out.head (j := 0) (v := .int .i64 v) rfl
    obtain ⟨wS, hwS⟩ : ∃ wS, wS = w1.alloc (.cells #[.slice none 0 0] 112) := ⟨_, rfl⟩
    have HWS := Lib.hid hwS
    clear hgg hwS
    go_wp2_with fail
    rw [← HGG.out, ← HWS.out]
    rw [← HWS.out] at HS H0 k1
    refine (num_calls g _ v _ HS.out.1 (by have := HL.out; rw [putL_len] at this; (try simp only [List.length_append, List.length_nil, e8_len]); omega)).mono ?_
    rintro e w2 ⟨rfl, ha, hb⟩
    have n_ := Aside0.mk (HS.out.step ha hb)
    clear HS ha hb k1
    have HS := n_
    clear n_
    have k1 := HS.out.head (j := 1) (v := .slice A ts.length c) rfl
    go_wp2_with fail
    refine (num_calls g _ ts.length _ HS.out.1 (by have := HL.out; rw [putL_len] at this; (try simp only [List.length_append, List.length_nil, e8_len]); omega)).mono ?_
    rintro e w2 ⟨rfl, ha, hb⟩
    have n_ := Aside0.mk (HS.out.step ha hb)
    clear HS ha hb k1
    have HS := n_
    clear n_
    have k1 := HS.out.head (j := 1) (v := .slice A ts.length c) rfl
    go_wp2_with fail
    obtain ⟨cur, hcur⟩ : ∃ cur, [] ++ e8 (un64 v) ++ e8 (un64 ts.length) = cur := ⟨_, rfl⟩
    rw [hcur] at HS
    have hcl : cur.length = 16 := by rw [← hcur]; rfl
    have HCL := Lib.hid hcl
    have HCU := Lib.hid hcur
    clear hcl hcur k1
    go_loopg [6, 24] ts.length (fun gg _ u24 wr => ∃ kk : Nat, kk ≤ ts.length ∧ ts.length - kk ≤ gg ∧ u24 = .int .i64 kk ∧ Aside0 (St 112 g wS wr (cur ++ tabsL (ts.take kk)) [(w.heap.size, #[.int .i64 v, .slice A ts.length c, .int .i64 nx], 28)]))
    case atStart => exact ⟨0, Nat.zero_le _, by omega, rfl, ⟨by have := HS.out; rw [← List.append_nil cur] at this; exact this⟩⟩
    case round =>
      obtain ⟨kk, hkk, hgk, rfl, HR⟩ := hrel
      clear HS
      by_cases hlt : kk < ts.length
      · have hltz : (kk : Int) < (ts.length : Int) := by omega
        have hBW := H0.out.trans (HR.out.2.1.below.mono hgW)
        obtain ⟨ad, A2, c2, A3, c3, eA, h0, h1, h2, h3, h4, hd2, hcols, hd3, hinds⟩ := at_T70 HC.out (kk : Int) (by omega) (by omega)
        have hx : rd_T70 ts (kk : Int) = ts[kk] := by unfold rd_T70; simp [List.getD, hlt]
        rw [hx] at h0 h1 h2 h3 h4 hd2 hcols hd3 hinds
        simp only [Int.toNat_natCast] at h0 h1 h2 h3 h4
        replace h0 := pw_cell_below hBW h0
        replace h1 := pw_cell_below hBW h1
        replace h2 := pw_cell_below hBW h2
        replace h3 := pw_cell_below hBW h3
        replace h4 := pw_cell_below hBW h4
        cases eA
        have hT := Lib.hid (fm_take tabL ts kk hlt)
        have hE := Lib.hid (fm_le tabL ts kk hlt)
        generalize ts[kk] = t at h0 h1 h2 h3 h4 hd2 hcols hd3 hinds hT hE
        have HI2 := Aside0.mk hcols
        have HI3 := Aside0.mk hinds
        have HS := Aside0.mk (HR.out.box #[.int .i64 t.f0, .string t.f1, .slice A2 t.f2.length c2, .slice A3 t.f3.length c3, .int .i64 t.f4] 70 (by decide))
        clear HR
        clear hx hcols hinds hBW
        go_wp2_with fail
        refine (table_calls w g _ t A2 c2 A3 c3 _ HS.out.1 (H0.out.trans (HS.out.2.1.below.mono hgW)) hgW HI2.out HI3.out (by have a1 := HL.out; have a2 := HCL.out; have a3 := hE.out; rw [putL_len] at a1; rw [List.length_append]; unfold tabsL at *; omega)).mono ?_
        rintro e w2 ⟨rfl, ha, hb⟩
        have n_ := Aside0.mk (HS.out.step ha hb)
        clear HS ha hb h0 h1 h2 h3 h4
        have HS := n_
        clear n_
        go_wp2
        go_roundg (ts.length - (kk + 1))
        case measure => omega
        case rel => exact ⟨kk + 1, by omega, by omega, by go_num, ⟨by have := HS.out.pop; unfold tabsL at this ⊢; rw [hT.out, ← List.append_assoc]; exact this⟩⟩
      · have hltz : ¬ (kk : Int) < (ts.length : Int) := by omega
        have hS := HR.out
        rw [List.take_of_length_le (by omega)] at hS
        have HS := Aside0.mk hS
        clear HR hS
        have k2 := HS.out.head (j := 2) (v := .int .i64 nx) rfl
        go_wp2_with fail
        refine (num_calls g _ nx _ HS.out.1 (by have a1 := HL.out; have a2 := HCL.out; rw [putL_len] at a1; rw [List.length_append]; omega)).mono ?_
        rintro e w2 ⟨rfl, ha, hb⟩
        have n_ := Aside0.mk (HS.out.step ha hb)
        clear HS ha hb k2
        have HS := n_
        clear n_
        have hfin : cur ++ tabsL ts ++ e8 (un64 nx) = putL v ts nx := by rw [← HCU.out]; unfold putL; simp only [List.nil_append, List.append_assoc]
        rw [hfin] at HS
        obtain ⟨bs, hbs⟩ : ∃ bs, bs = putL v ts nx := ⟨_, rfl⟩
        rw [← hbs] at HS HL
        have HBS := Lib.hid hbs
        obtain ⟨x, hv, ho⟩ := HS.out.1
        have c0 := cell_of_one hv
        have hcv := own_string (P := Tryd.prog) Tryd.underlying61 Tryd.underlying5 Tryd.underlying9 ho
        have hz : (strOfNums bs).size = bs.length := strOfNums_size bs
        have hq := Lib.hid (seal_calls (strOfNums bs) w2 (by rw [hz]; have := HL.out; unfold maxLen; omega))
        have HBW := Aside0.mk (H0.out.trans (HS.out.2.1.below.mono hgW))
        clear hfin hbs hv ho HS hz
        go_wp2_with (go_at_call 78; refine hq.out.mono ?_; rintro e w3 ⟨rfl, hb3⟩)
        go_ret2
        refine ⟨by rw [← HBS.out]; rfl, below_then HBW.out HBW.out.size hb3⟩
end Go.Proofs.YtjgomlcdmpcoaaaDoor.H
namespace Go.Proofs.YtjgomlcdmpcoaaaDoor.H
open Go.RowKit Go.Proofs.YtjgomlcdmpcoaaaDoorW.PrintWords Go.Proofs.YtjgomlcdmpcoaaaDoorW.PrintLast Go.Proofs.YtjgomlcdmpcoaaaDoorW.PrintMore
open Go.Proofs.YtjgomlcdmpcoaaaDoor.D Go.Proofs.YtjgomlcdmpcoaaaDoor
set_option linter.unusedVariables false
set_option linter.unusedSimpArgs false
set_option maxHeartbeats 1000000 in
theorem num6_calls (n : Int) (w : World) : Calls Tryd.prog 40 #[.int .i64 n] w fun e w' => e = .returned (.int .i64 n) ∧ w = w' := by
  go_enter Tryd.func40, Tryd.ntmps40
  go_wp2
  go_ret
  exact ⟨rfl, rfl⟩
theorem put0 : putE 0 [] 0 = 0 ∧ (putS 0 [] 0).size = 28 := by
  have h : schB 0 [] 0 = true := rfl
  unfold putE putS
  rw [h, if_pos rfl, if_pos rfl]
  exact ⟨rfl, rfl⟩
theorem name_a : nameB ⟨#[97]⟩ = true := by decide +kernel
theorem name_table : nameB ⟨#[116, 97, 98, 108, 101]⟩ = false := by decide +kernel
theorem nil_C {α : Type} (d : Kd α) (w : World) : Kd.C d w none 0 [] := ⟨rfl, Nat.zero_le _, fun h => absurd h (by omega)⟩
set_option maxRecDepth 100000 in
set_option maxHeartbeats 1000000 in
theorem awake6_calls (w : World) (hG : GL w) : Calls Tryd.prog 35 #[] w fun e w' => e = .returned (.bool true) ∧ Below w.heap.size w w' := by
  have hp := Lib.hid (dput_calls 0 [] 0 (fun t ht => by cases ht) none 0 w hG (nil_C _ _))
  have HG := Aside0.mk hG
  have HN := Lib.hid nameCalls
  obtain ⟨s, hs⟩ : ∃ s, putS 0 [] 0 = s := ⟨_, rfl⟩
  have hz := put0.2
  rw [hs] at hz hp
  rw [put0.1] at hp
  have HZ := Lib.hid hz
  have b1 : ((s.size : Int) == 28) = true := by rw [hz]; rfl
  clear hs hG hz
  have hp' : Calls Tryd.prog 38 #[.agg #[.int .i64 0, .slice none 0 0, .int .i64 0]] w fun e w' => e = .returned (.tuple #[.string s, .int .i64 0]) ∧ Below w.heap.size w w' := hp.out
  have HP := Lib.hid hp'
  have H1 := Lib.hid (fun w => HN.out ⟨#[97]⟩ w)
  have H2 := Lib.hid (fun w => HN.out ⟨#[116, 97, 98, 108, 101]⟩ w)
  rw [name_a] at H1
  rw [name_table] at H2
  clear hp hp' HN
  go_enter Tryd.func35, Tryd.ntmps35
  go_wp2_with fail
  refine HP.out.mono ?_
  rintro e w1 ⟨rfl, hb1⟩
  have HB1 := Aside0.mk hb1
  clear hb1
  go_wp2_with (go_at_call 40; refine (num6_calls _ _).mono ?_; rintro e w' ⟨rfl, rfl⟩)
  refine (H1.out _ (HG.out.of_below HB1.out)).mono ?_
  rintro e w2 ⟨rfl, hb2⟩
  have HB2 := Aside0.mk (below_then HB1.out HB1.out.size hb2)
  clear hb2
  go_wp2_with fail
  refine (H2.out _ (HG.out.of_below HB2.out)).mono ?_
  rintro e w3 ⟨rfl, hb3⟩
  have HB3 := Aside0.mk (below_then HB2.out HB2.out.size hb3)
  clear hb3
  go_wp2
  go_ret
  exact ⟨rfl, HB3.out⟩
end Go.Proofs.YtjgomlcdmpcoaaaDoor.H
namespace Go.Proofs.YtjgomlcdmpcoaaaDoor.H
open Go.RowKit Go.Proofs.YtjgomlcdmpcoaaaDoorW.PrintWords Go.Proofs.YtjgomlcdmpcoaaaDoorW.PrintLast Go.Proofs.YtjgomlcdmpcoaaaDoorW.PrintMore
open Go.Proofs.YtjgomlcdmpcoaaaDoor.D Go.Proofs.YtjgomlcdmpcoaaaDoor
set_option linter.unusedVariables false
set_option linter.unusedSimpArgs false
theorem wrap_nat (i : Nat) (h : i < 1000000) : wrap64 ((i : Int) + 1) = ((i + 1 : Nat) : Int) := by unfold wrap64; omega
theorem rd70 (l : List S70) (i : Nat) (h : i < l.length) : rd_T70 l (i : Int) = l[i] := by unfold rd_T70; simp [List.getD, h]
structure IXt (w wr : World) (bt bx : Array Value) : Prop where
  below : Below w.heap.size w wr
  tb : wr.heap[w.heap.size]? = some (.cells bt 70 (0, 0))
  xb : wr.heap[w.heap.size + 1]? = some (.cells bx 98 (0, 0))
theorem IXt.step {w wr w' : World} {bt bx : Array Value} (h : IXt w wr bt bx) (hb : Below wr.heap.size wr w') : IXt w w' bt bx :=
  ⟨below_then h.below h.below.size hb, blk_below h.tb hb, blk_below h.xb hb⟩
theorem IXt.drew {w wr : World} {bt bx : Array Value} (h : IXt w wr bt bx) (n : Nat) : IXt w (wr.drewN n) bt bx := h.step (pw_below_drewN (Below.refl _ _) n)
theorem IXt.new (w : World) (bt bx : Array Value) : IXt w ((w.alloc (.cells bt 70)).alloc (.cells bx 98)) bt bx := by
  refine ⟨below_alloc (below_alloc (Below.refl _ _) _) _, blk_alloc (heap_alloc_new w _) _, ?_⟩
  have := heap_alloc_new (w.alloc (.cells bt 70)) (.cells bx 98)
  simpa using this
end Go.Proofs.YtjgomlcdmpcoaaaDoor.H
namespace Go.Proofs.YtjgomlcdmpcoaaaDoor.H
open Go.RowKit Go.Proofs.YtjgomlcdmpcoaaaDoorW.PrintWords Go.Proofs.YtjgomlcdmpcoaaaDoorW.PrintLast Go.Proofs.YtjgomlcdmpcoaaaDoorW.PrintMore
open Go.Proofs.YtjgomlcdmpcoaaaDoor.D Go.Proofs.YtjgomlcdmpcoaaaDoor
set_option linter.unusedVariables false
set_option linter.unusedSimpArgs false
theorem below_of_drew' {w w1 : World} (h : Below w.drew.heap.size w.drew w1) : Below w.heap.size w w1 := ⟨h.os, h.tape, h.output, h.size, h.block⟩
structure RSt (w wr : World) (bx : Array Value) (v : Value) (ids : List Int) : Prop where
  below : Below w.heap.size w wr
  box : wr.heap[w.heap.size]? = some (.cells bx 70 (0, 0))
  row : Kd.R (Kd.int .i64) 3 wr w.heap.size (fun _ => True) v ids
theorem RSt.step {w wr w' : World} {bx : Array Value} {v : Value} {ids : List Int} (h : RSt w wr bx v ids) (hb : Below wr.heap.size wr w') : RSt w w' bx v ids :=
  ⟨below_then h.below h.below.size hb, blk_below h.box hb, Kd.R_below h.row hb⟩
theorem RSt.drew {w wr : World} {bx : Array Value} {v : Value} {ids : List Int} (h : RSt w wr bx v ids) (n : Nat) : RSt w (wr.drewN n) bx v ids := h.step (pw_below_drewN (Below.refl _ _) n)
end Go.Proofs.YtjgomlcdmpcoaaaDoor.H

