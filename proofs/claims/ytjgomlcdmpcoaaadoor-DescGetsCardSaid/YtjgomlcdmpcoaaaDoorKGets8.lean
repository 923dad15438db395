/- Own texts of this session, packed by its program wip/pp/pack.py: lemmas and walks of functions. -/
import Derived.Deep.QuietTactic
import Derived.Test.YtjgomlcdmpcoaaaDoorKGets1
import Derived.Test.YtjgomlcdmpcoaaaDoorKGets6
import Derived.Test.YtjgomlcdmpcoaaaDoorKGets7
namespace Go.Proofs.YtjgomlcdmpcoaaaDoor.H
open Go.RowKit Go.Proofs.YtjgomlcdmpcoaaaDoorW.PrintWords Go.Proofs.YtjgomlcdmpcoaaaDoorW.PrintLast Go.Proofs.YtjgomlcdmpcoaaaDoorW.PrintMore
open Go.Proofs.YtjgomlcdmpcoaaaDoor.D Go.Proofs.YtjgomlcdmpcoaaaDoor
set_option linter.unusedVariables false
set_option linter.unusedSimpArgs false
theorem e8_wrap (n : Int) : e8 (un64 (IntKind.i64.wrap n)) = e8 n := by
  rw [IntKind.wrap_i64]
  unfold e8 un64
  congr 1
  · omega
  congr 1
  · omega
  congr 1
  · omega
  congr 1
  · omega
  congr 1
  · omega
  congr 1
  · omega
  congr 1
  · omega
  congr 1
  omega
def valL (x : S73) : List Int := e8 (un64 x.f0) ++ (e8 (un64 x.f1) ++ (e8 x.f2 ++ tx x.f3))
theorem valL_len (x : S73) : (valL x).length = 32 + x.f3.size := by unfold valL; simp only [List.length_append, e8_len, tx_len]; omega
set_option maxRecDepth 100000 in
set_option maxHeartbeats 16000000 in
theorem rvalue_calls (g : Nat) (bs : List Int) (x : S73) (w : World) (hw : WB 118 w g bs) (hlen : bs.length + (valL x).length ≤ 1000000000) :
    Calls Tryd.prog 134 #[.pointer (some ⟨g, 0, none⟩), .agg #[.int .i64 x.f0, .int .i64 x.f1, .int .u64 x.f2, .string x.f3]] w
      fun e w' => e = .returned (.tuple #[]) ∧ WB 118 w' g (bs ++ valL x) ∧ Wr g w w' := by
  obtain ⟨i0, hi0, hz0, hz1, hz2⟩ := info_parts D.info5
  have HS := Aside0.mk (St.box (w0 := w) (L := []) ⟨hw, Wr.refl _ _, fun p hp => by cases hp⟩ #[.int .i64 x.f0, .int .i64 x.f1, .int .u64 x.f2, .string x.f3] 73 (by decide))
  have HL := Lib.hid hlen
  clear hw hlen
  go_enter Tryd.func134, Tryd.ntmps134
  go_wp2_with fail
  refine (rnum_calls g _ x.f0 _ HS.out.1 (by have := HL.out; rw [valL_len] at this; (try simp only [List.length_append, e8_len, tx_len]); omega)).mono ?_
  rintro e w2 ⟨rfl, ha, hb⟩
  have n_ := Aside0.mk (HS.out.step ha hb)
  clear HS ha hb
  have HS := n_
  clear n_
  have k1 := HS.out.head (j := 1) (v := .int .i64 x.f1) rfl
  obtain ⟨v, hv, ho⟩ := HS.out.1
  have c0 := cell_of_one hv
  have f0 := free_of_one hv
  have HV := Aside0.mk hv
  have HO := Aside0.mk ho
  obtain ⟨s, hs⟩ : ∃ s, s = strOfNums (e8 (un64 (x.f1))) := ⟨_, rfl⟩
  have h8 : s.size = 8 := by rw [hs]; rfl
  have hs8 : bytesOf s = e8 (un64 (x.f1)) := by rw [hs]; exact bytes_back _ (e8_in _)
  have HC := Lib.hid (Eight_calls (x.f1))
  rw [← hs] at HC
  have H8 := Lib.hid hs8
  have HZ := Lib.hid h8
  have hcl : (bs ++ e8 (un64 x.f0)).length ≤ 1000000000 := by have := HL.out; rw [valL_len] at this; (try simp only [List.length_append, e8_len, tx_len]); omega
  obtain ⟨cur, hcu⟩ : ∃ cur : List Int, cur = bs ++ e8 (un64 x.f0) := ⟨_, rfl⟩
  rw [← hcu] at HO HS hcl
  have HCL := Lib.hid hcl
  have hL1 : cur.length + s.size ≤ maxLen := by unfold maxLen; omega
  have hL2 : cur.length + s.size ≤ 140737488355328 := by omega
  have HCU := Lib.hid hcu
  clear hv ho hs h8 hs8 hcu hcl
  go_wp2_with fail
  go_region_law (first
    | (go_simp; go_at_call 133; refine (HC.out _).mono ?_; rintro e w1 ⟨rfl, hb0⟩; have hb1 := below_of_drew hb0; have c1 := pw_cell_below hb1 c0; have d1 := pw_cell_below hb1 k1)
    | (refine step_append_str (by rfl) _ _ _ _ (by rfl) (g + 1) 5 i0 Tryd.underlying61 Tryd.underlying9 hi0 hz0 hz1 hz2 v cur.length (nums .u8 cur) (by rfl) (pw_own_below HO.out hb1) s (by rfl) hL1 hL2 (Nat.le_trans (lt_of_block HV.out) hb1.size) ?_; intro A c w2 hown hgrow; have c2 := (wr_keepB' HV.out HO.out hb1 hgrow).1; have f2 := (wr_keepB' HV.out HO.out hb1 hgrow).2))
  all_goals
    have hst := wr_store (T := 118) (by decide) HV.out HO.out hb1 (v' := .slice A (cur.length + s.size) c) (cs := bytesOf s) (by rw [bytesOf_length]; exact hown) hgrow
    generalize w2.setCell ⟨g, 0, none⟩ (Value.slice A (cur.length + s.size) c) = wz at hst ⊢
    rw [H8.out, HCU.out] at hst
    have n_ := Aside0.mk (HS.out.step hst.1 hst.2)
    clear hst hown hgrow hL1 hL2 HS c0 f0 HV HO H8 HZ HCU HC HCL hb0 hb1 k1
    try clear c1
    try clear c2
    try clear f2
    try clear d1
    have HS := n_
    clear n_
    have k1 := HS.out.head (j := 2) (v := .int .u64 x.f2) rfl
    go_wp2_with fail
    obtain ⟨v, hv, ho⟩ := HS.out.1
    have c0 := cell_of_one hv
    have f0 := free_of_one hv
    have HV := Aside0.mk hv
    have HO := Aside0.mk ho
    obtain ⟨s, hs⟩ : ∃ s, s = strOfNums (e8 (un64 (IntKind.i64.wrap x.f2))) := ⟨_, rfl⟩
    have h8 : s.size = 8 := by rw [hs]; rfl
    have hs8 : bytesOf s = e8 (un64 (IntKind.i64.wrap x.f2)) := by rw [hs]; exact bytes_back _ (e8_in _)
    have HC := Lib.hid (Eight_calls (IntKind.i64.wrap x.f2))
    rw [← hs] at HC
    have H8 := Lib.hid hs8
    have HZ := Lib.hid h8
    have hcl : (bs ++ e8 (un64 x.f0) ++ e8 (un64 x.f1)).length ≤ 1000000000 := by have := HL.out; rw [valL_len] at this; (try simp only [List.length_append, e8_len, tx_len]); omega
    obtain ⟨cur, hcu⟩ : ∃ cur : List Int, cur = bs ++ e8 (un64 x.f0) ++ e8 (un64 x.f1) := ⟨_, rfl⟩
    rw [← hcu] at HO HS hcl
    have HCL := Lib.hid hcl
    have hL1 : cur.length + s.size ≤ maxLen := by unfold maxLen; omega
    have hL2 : cur.length + s.size ≤ 140737488355328 := by omega
    have HCU := Lib.hid hcu
    clear hv ho hs h8 hs8 hcu hcl
    go_wp2_with fail
    go_region_law (first
      | (go_simp; go_at_call 133; refine (HC.out _).mono ?_; rintro e w1 ⟨rfl, hb0⟩; have hb1 := below_of_drew hb0; have c1 := pw_cell_below hb1 c0; have d1 := pw_cell_below hb1 k1)
      | (refine step_append_str (by rfl) _ _ _ _ (by rfl) (g + 1) 5 i0 Tryd.underlying61 Tryd.underlying9 hi0 hz0 hz1 hz2 v cur.length (nums .u8 cur) (by rfl) (pw_own_below HO.out hb1) s (by rfl) hL1 hL2 (Nat.le_trans (lt_of_block HV.out) hb1.size) ?_; intro A c w2 hown hgrow; have c2 := (wr_keepB' HV.out HO.out hb1 hgrow).1; have f2 := (wr_keepB' HV.out HO.out hb1 hgrow).2))
    all_goals
      have hst := wr_store (T := 118) (by decide) HV.out HO.out hb1 (v' := .slice A (cur.length + s.size) c) (cs := bytesOf s) (by rw [bytesOf_length]; exact hown) hgrow
      generalize w2.setCell ⟨g, 0, none⟩ (Value.slice A (cur.length + s.size) c) = wz at hst ⊢
      rw [H8.out, HCU.out] at hst
      have n_ := Aside0.mk (HS.out.step hst.1 hst.2)
      clear hst hown hgrow hL1 hL2 HS c0 f0 HV HO H8 HZ HCU HC HCL hb0 hb1 k1
      try clear c1
      try clear c2
      try clear f2
      try clear d1
      have HS := n_
      clear n_
      have k1 := HS.out.head (j := 3) (v := .string x.f3) rfl
      go_wp2_with fail
      refine (rtext_calls g _ x.f3 _ HS.out.1 (by have := HL.out; rw [valL_len] at this; (try simp only [List.length_append, e8_len, tx_len]); omega)).mono ?_
      rintro e w2 ⟨rfl, ha, hb⟩
      have n_ := Aside0.mk (HS.out.step ha hb)
      clear HS ha hb k1
      have HS := n_
      clear n_
      go_wp2
      go_end0
      refine ⟨rfl, ?_, HS.out.2.1⟩
      have := HS.out.1
      rw [e8_wrap] at this
      unfold valL
      simp only [List.append_assoc] at this ⊢
      exact this
end Go.Proofs.YtjgomlcdmpcoaaaDoor.H
namespace Go.Proofs.YtjgomlcdmpcoaaaDoor.H
open Go.RowKit Go.Proofs.YtjgomlcdmpcoaaaDoorW.PrintWords Go.Proofs.YtjgomlcdmpcoaaaDoorW.PrintLast Go.Proofs.YtjgomlcdmpcoaaaDoorW.PrintMore
open Go.Proofs.YtjgomlcdmpcoaaaDoor.D Go.Proofs.YtjgomlcdmpcoaaaDoor
set_option linter.unusedVariables false
set_option linter.unusedSimpArgs false
set_option maxRecDepth 100000 in
set_option maxHeartbeats 16000000 in
theorem rtable_calls (W0 : World) (g : Nat) (bs : List Int) (t : S70) (A2 : Option Addr) (c2 : Nat) (A3 : Option Addr) (c3 : Nat) (w : World) (hw : WB 118 w g bs) (h0 : Below W0.heap.size W0 w) (hgW : W0.heap.size ≤ g)
    (h2 : k75.C W0 A2 t.f2.length t.f2) (h3 : k98.C W0 A3 t.f3.length t.f3) (hlen : bs.length + (tabL t).length ≤ 1000000000) :
    Calls Tryd.prog 80 #[.pointer (some ⟨g, 0, none⟩), .agg #[.int .i64 t.f0, .string t.f1, .slice A2 t.f2.length c2, .slice A3 t.f3.length c3, .int .i64 t.f4]] w
      fun e w' => e = .returned (.tuple #[]) ∧ WB 118 w' g (bs ++ tabL t) ∧ Wr g w w' := by
  have HS := Aside0.mk (St.box (w0 := w) (L := []) ⟨hw, Wr.refl _ _, fun p hp => by cases hp⟩ #[.int .i64 t.f0, .string t.f1, .slice A2 t.f2.length c2, .slice A3 t.f3.length c3, .int .i64 t.f4] 70 (by decide))
  have HC := Aside0.mk h2
  have HX := Aside0.mk h3
  have H0 := Aside0.mk h0
  have HL := Lib.hid hlen
  have big2 := h2.2.1
  have big3 := h3.2.1
  clear hw h0 h2 h3 hlen
  go_enter Tryd.func80, Tryd.ntmps80
  go_wp2_with fail
  refine (rnum_calls g _ t.f0 _ HS.out.1 (by have := HL.out; rw [tabL_len] at this; (try simp only [List.length_append, e8_len, tx_len]); omega)).mono ?_
  rintro e w2 ⟨rfl, ha, hb⟩
  have n_ := Aside0.mk (HS.out.step ha hb)
  clear HS ha hb
  have HS := n_
  clear n_
  have k1 := HS.out.head (j := 1) (v := .string t.f1) rfl
  go_wp2_with fail
  refine (rtext_calls g _ t.f1 _ HS.out.1 (by have := HL.out; rw [tabL_len] at this; (try simp only [List.length_append, e8_len, tx_len]); omega)).mono ?_
  rintro e w2 ⟨rfl, ha, hb⟩
  have n_ := Aside0.mk (HS.out.step ha hb)
  clear HS ha hb k1
  have HS := n_
  clear n_
  have k1 := HS.out.head (j := 2) (v := .slice A2 t.f2.length c2) rfl
  go_wp2_with fail
  refine (rnum_calls g _ t.f2.length _ HS.out.1 (by have := HL.out; rw [tabL_len] at this; (try simp only [List.length_append, e8_len, tx_len]); omega)).mono ?_
  rintro e w2 ⟨rfl, ha, hb⟩
  have n_ := Aside0.mk (HS.out.step ha hb)
  clear HS ha hb k1
  have HS := n_
  clear n_
  go_wp2_with fail
  obtain ⟨cur, hcur⟩ : ∃ cur, bs ++ e8 (un64 t.f0) ++ tx t.f1 ++ e8 (un64 t.f2.length) = cur := ⟨_, rfl⟩
  rw [hcur] at HS
  have hcl : cur.length = bs.length + 24 + t.f1.size := by rw [← hcur]; simp only [List.length_append, e8_len, tx_len]; omega
  have HCL := Lib.hid hcl
  have HCU := Lib.hid hcur
  clear hcl hcur
  go_loopg [4, 5] t.f2.length (fun gg u4 _ wr => ∃ kk : Nat, kk ≤ t.f2.length ∧ t.f2.length - kk ≤ gg ∧ u4 = .int .i64 kk ∧ Aside0 (St 118 g w wr (cur ++ colsL (t.f2.take kk)) [(w.heap.size, #[.int .i64 t.f0, .string t.f1, .slice A2 t.f2.length c2, .slice A3 t.f3.length c3, .int .i64 t.f4], 70)]))
  case atStart => exact ⟨0, Nat.zero_le _, by omega, rfl, ⟨by have := HS.out; rw [← List.append_nil cur] at this; exact this⟩⟩
  case round =>
    obtain ⟨kk, hkk, hgg, rfl, HR⟩ := hrel
    clear HS
    have k1 := HR.out.head (j := 2) (v := .slice A2 t.f2.length c2) rfl
    by_cases hlt : kk < t.f2.length
    · have hltz : (kk : Int) < (t.f2.length : Int) := by omega
      have hC := Kd.C_below HC.out (H0.out.trans (HR.out.2.1.below.mono hgW))
      obtain ⟨ad, eA, h0, h1, h2, h3, h4, h5, h6, h7, h8⟩ := at_T75 hC (kk : Int) (by omega) (by omega)
      have hx : rd_T75 t.f2 (kk : Int) = t.f2[kk] := by unfold rd_T75; simp [List.getD, hlt]
      rw [hx] at h0 h1 h2 h3 h4 h5 h6 h7 h8
      simp only [Int.toNat_natCast] at h0 h1 h2 h3 h4 h5 h6 h7 h8
      cases eA
      have hT := Lib.hid (fm_take colL t.f2 kk hlt)
      have hE := Lib.hid (fm_le colL t.f2 kk hlt)
      generalize t.f2[kk] = x at h0 h1 h2 h3 h4 h5 h6 h7 h8 hT hE
      have HS := Aside0.mk (HR.out.box (cells75 x) 75 (by decide))
      clear hx hC HR
      have hpre : (cur ++ colsL (t.f2.take kk)).length + (colL x).length ≤ 1000000000 := by
        have a1 := HL.out; have a2 := HCL.out; have a3 := hE.out; rw [tabL_len] at a1; rw [List.length_append]; unfold colsL at *; omega
      obtain ⟨pre, hpr⟩ : ∃ pre, cur ++ colsL (t.f2.take kk) = pre := ⟨_, rfl⟩
      rw [hpr] at HS hpre
      have HPR := Lib.hid hpr
      have HPL := Lib.hid hpre
      clear hpr hpre
      go_wp2_with fail
      refine (rnum_calls g _ x.f0 _ HS.out.1 (by have := HPL.out; rw [colL_len] at this; (try simp only [List.length_append, e8_len, tx_len]); omega)).mono ?_
      rintro e w2 ⟨rfl, ha, hb⟩
      have n_ := Aside0.mk (HS.out.step ha hb)
      clear HS ha hb h0 h1 h2 h3 h4 h5 h6 h7 h8 k1
      have HS := n_
      clear n_
      have k1 := HS.out.head (j := 1) (v := .string x.f1) rfl
      go_wp2_with fail
      refine (rtext_calls g _ x.f1 _ HS.out.1 (by have := HPL.out; rw [colL_len] at this; (try simp only [List.length_append, e8_len, tx_len]); omega)).mono ?_
      rintro e w2 ⟨rfl, ha, hb⟩
      have n_ := Aside0.mk (HS.out.step ha hb)
      clear HS ha hb k1
      have HS := n_
      clear n_
      have k1 := HS.out.head (j := 2) (v := .int .i64 x.f2) rfl
      go_wp2_with fail
      refine (rnum_calls g _ x.f2 _ HS.out.1 (by have := HPL.out; rw [colL_len] at this; (try simp only [List.length_append, e8_len, tx_len]); omega)).mono ?_
      rintro e w2 ⟨rfl, ha, hb⟩
      have n_ := Aside0.mk (HS.out.step ha hb)
      clear HS ha hb k1
      have HS := n_
      clear n_
      have k1 := HS.out.head (j := 3) (v := .int .i64 x.f3) rfl
      go_wp2_with fail
      refine (rnum_calls g _ x.f3 _ HS.out.1 (by have := HPL.out; rw [colL_len] at this; (try simp only [List.length_append, e8_len, tx_len]); omega)).mono ?_
      rintro e w2 ⟨rfl, ha, hb⟩
      have n_ := Aside0.mk (HS.out.step ha hb)
      clear HS ha hb k1
      have HS := n_
      clear n_
      have k1 := HS.out.head (j := 4) (v := .int .i64 x.f4) rfl
      go_wp2_with fail
      refine (rnum_calls g _ x.f4 _ HS.out.1 (by have := HPL.out; rw [colL_len] at this; (try simp only [List.length_append, e8_len, tx_len]); omega)).mono ?_
      rintro e w2 ⟨rfl, ha, hb⟩
      have n_ := Aside0.mk (HS.out.step ha hb)
      clear HS ha hb k1
      have HS := n_
      clear n_
      have k5 := HS.out.head (j := 5) (v := .int .i64 x.f5.f0) rfl
      have k6 := HS.out.head (j := 6) (v := .int .i64 x.f5.f1) rfl
      have k7 := HS.out.head (j := 7) (v := .int .u64 x.f5.f2) rfl
      have k8 := HS.out.head (j := 8) (v := .string x.f5.f3) rfl
      go_wp2_with fail
      refine (rvalue_calls g _ x.f5 _ HS.out.1 (by have := HPL.out; rw [colL_len] at this; rw [valL_len]; (try simp only [List.length_append, e8_len, tx_len]); omega)).mono ?_
      rintro e w2 ⟨rfl, ha, hb⟩
      have n_ := Aside0.mk (HS.out.step ha hb)
      clear HS ha hb k5 k6 k7 k8
      have HS := n_
      clear n_
      go_wp2
      go_roundg (t.f2.length - (kk + 1))
      case measure => omega
      case rel => exact ⟨kk + 1, by omega, by omega, by go_num, ⟨by have := HS.out.pop; unfold colsL at this ⊢; rw [hT.out, ← List.append_assoc]; rw [← HPR.out] at this; unfold colL colsL at *; unfold valL at this; simp only [List.append_assoc] at this ⊢; exact this⟩⟩
    · have hltz : ¬ (kk : Int) < (t.f2.length : Int) := by omega
      have hS := HR.out
      rw [List.take_of_length_le (by omega)] at hS
      have HS := Aside0.mk hS
      clear HR hS
      obtain ⟨wo, hwo⟩ : ∃ wo : World, wo = wr := ⟨_, rfl⟩
      subst hwo
      have k2 := HS.out.head (j := 3) (v := .slice A3 t.f3.length c3) rfl
      go_wp2_with fail
      refine (rnum_calls g _ t.f3.length _ HS.out.1 (by have := HL.out; have := HCL.out; rw [tabL_len] at *; (try simp only [List.length_append, e8_len, tx_len]); omega)).mono ?_
      rintro e w2 ⟨rfl, ha, hb⟩
      have n_ := Aside0.mk (HS.out.step ha hb)
      clear HS ha hb k2 k1
      have HS := n_
      clear n_
      go_wp2_with fail
      obtain ⟨cu2, hcu2⟩ : ∃ cu2, cur ++ colsL t.f2 ++ e8 (un64 t.f3.length) = cu2 := ⟨_, rfl⟩
      rw [hcu2] at HS
      have hcl2 : cu2.length = bs.length + 32 + t.f1.size + (colsL t.f2).length := by rw [← hcu2]; simp only [List.length_append, e8_len, tx_len]; have := HCL.out; omega
      have HCL2 := Lib.hid hcl2
      have HCU2 := Lib.hid hcu2
      clear hcl2 hcu2
      go_loopg [6, 7] t.f3.length (fun gg u6 _ wr => ∃ kk : Nat, kk ≤ t.f3.length ∧ t.f3.length - kk ≤ gg ∧ u6 = .int .i64 kk ∧ Aside0 (St 118 g w wr (cu2 ++ indsL (t.f3.take kk)) [(w.heap.size, #[.int .i64 t.f0, .string t.f1, .slice A2 t.f2.length c2, .slice A3 t.f3.length c3, .int .i64 t.f4], 70)]))
      case atStart => exact ⟨0, Nat.zero_le _, by omega, rfl, ⟨by have := HS.out; rw [← List.append_nil cu2] at this; exact this⟩⟩
      case round =>
        obtain ⟨kk, hkk, hgg, rfl, HR⟩ := hrel
        clear HS
        have k1 := HR.out.head (j := 3) (v := .slice A3 t.f3.length c3) rfl
        by_cases hlt : kk < t.f3.length
        · have hltz : (kk : Int) < (t.f3.length : Int) := by omega
          have hBW := H0.out.trans (HR.out.2.1.below.mono hgW)
          obtain ⟨ad, B2, d2, eA, h0, h1, h2, h3, h4, hd2, hcols⟩ := at_T98 HX.out (kk : Int) (by omega) (by omega)
          have hx : rd_T98 t.f3 (kk : Int) = t.f3[kk] := by unfold rd_T98; simp [List.getD, hlt]
          rw [hx] at h0 h1 h2 h3 h4 hd2 hcols
          simp only [Int.toNat_natCast] at h0 h1 h2 h3 h4
          replace h0 := pw_cell_below hBW h0
          replace h1 := pw_cell_below hBW h1
          replace h2 := pw_cell_below hBW h2
          replace h3 := pw_cell_below hBW h3
          replace h4 := pw_cell_below hBW h4
          cases eA
          have hT := Lib.hid (fm_take indL t.f3 kk hlt)
          have hE := Lib.hid (fm_le indL t.f3 kk hlt)
          generalize t.f3[kk] = x at h0 h1 h2 h3 h4 hd2 hcols hT hE
          have HS := Aside0.mk (HR.out.box #[.int .i64 x.f0, .string x.f1, .slice B2 x.f2.length d2, .bool x.f3, .int .i64 x.f4] 98 (by decide))
          have HI := Aside0.mk hcols
          have hbx := hcols.2.1
          have hpre : (cu2 ++ indsL (t.f3.take kk)).length + (indL x).length ≤ 1000000000 := by
            have a1 := HL.out; have a2 := HCL2.out; have a3 := hE.out; rw [tabL_len] at a1; rw [List.length_append]; unfold indsL at *; omega
          obtain ⟨pre, hpr⟩ : ∃ pre, cu2 ++ indsL (t.f3.take kk) = pre := ⟨_, rfl⟩
          rw [hpr] at HS hpre
          have HPR := Lib.hid hpr
          have HPL := Lib.hid hpre
          clear hx hcols HR hBW hpr hpre
          go_wp2_with fail
          refine (rnum_calls g _ x.f0 _ HS.out.1 (by have := HPL.out; rw [indL_len] at this; (try simp only [List.length_append, e8_len, tx_len]); omega)).mono ?_
          rintro e w2 ⟨rfl, ha, hb⟩
          have n_ := Aside0.mk (HS.out.step ha hb)
          clear HS ha hb h0 h1 h2 h3 h4 k1
          have HS := n_
          clear n_
          have k1 := HS.out.head (j := 1) (v := .string x.f1) rfl
          go_wp2_with fail
          refine (rtext_calls g _ x.f1 _ HS.out.1 (by have := HPL.out; rw [indL_len] at this; (try simp only [List.length_append, e8_len, tx_len]); omega)).mono ?_
          rintro e w2 ⟨rfl, ha, hb⟩
          have n_ := Aside0.mk (HS.out.step ha hb)
          clear HS ha hb k1
          have HS := n_
          clear n_
          have k1 := HS.out.head (j := 2) (v := .slice B2 x.f2.length d2) rfl
          go_wp2_with fail
          refine (rnum_calls g _ x.f2.length _ HS.out.1 (by have := HPL.out; rw [indL_len] at this; (try simp only [List.length_append, e8_len, tx_len]); omega)).mono ?_
          rintro e w2 ⟨rfl, ha, hb⟩
          have n_ := Aside0.mk (HS.out.step ha hb)
          clear HS ha hb k1
          have HS := n_
          clear n_
          go_wp2_with fail
          obtain ⟨cu3, hcu3⟩ : ∃ cu3, pre ++ e8 (un64 x.f0) ++ tx x.f1 ++ e8 (un64 x.f2.length) = cu3 := ⟨_, rfl⟩
          rw [hcu3] at HS
          have hcl3 : cu3.length = pre.length + 24 + x.f1.size := by rw [← hcu3]; simp only [List.length_append, e8_len, tx_len]; omega
          have HCL3 := Lib.hid hcl3
          have HCU3 := Lib.hid hcu3
          clear hcl3 hcu3
          obtain ⟨wq, hwq⟩ : ∃ wq : World, wq = wr := ⟨_, rfl⟩
          subst hwq
          go_loopg [8] x.f2.length (fun gg u8 wr => ∃ jj : Nat, jj ≤ x.f2.length ∧ x.f2.length - jj ≤ gg ∧ u8 = .int .i64 jj ∧ Aside0 (St 118 g w wr (cu3 ++ intsL (x.f2.take jj)) [(wq.heap.size, #[.int .i64 x.f0, .string x.f1, .slice B2 x.f2.length d2, .bool x.f3, .int .i64 x.f4], 98), (w.heap.size, #[.int .i64 t.f0, .string t.f1, .slice A2 t.f2.length c2, .slice (some ad) t.f3.length c3, .int .i64 t.f4], 70)]))
          case atStart => exact ⟨0, Nat.zero_le _, by omega, rfl, ⟨by have := HS.out; rw [← List.append_nil cu3] at this; exact this⟩⟩
          case round =>
            obtain ⟨jj, hjj, hjg, rfl, HR⟩ := hrel
            clear HS
            have k1 := HR.out.head (j := 2) (v := .slice B2 x.f2.length d2) rfl
            by_cases hlj : jj < x.f2.length
            · have hljz : (jj : Int) < (x.f2.length : Int) := by omega
              obtain ⟨ad3, eB, hcell⟩ := (Kd.reads_of_C (enc := Value.int .i64) (d := (0 : Int)) (h1 := fun _ => rfl) HI.out).at_ (jj : Int) (by omega) (by omega)
              have hy : rdOf (0 : Int) x.f2 (jj : Int) = x.f2[jj] := by simp [rdOf, List.getD, hlj]
              rw [hy, Int.toNat_natCast] at hcell
              replace hcell := pw_cell_below (H0.out.trans (HR.out.2.1.below.mono hgW)) hcell
              cases eB
              have hT3 := Lib.hid (fm_take intL x.f2 jj hlj)
              have hE3 := Lib.hid (fm_le intL x.f2 jj hlj)
              generalize x.f2[jj] = y at hcell hT3 hE3
              have HS := HR
              clear hy HR
              go_wp2_with fail
              refine (rnum_calls g _ y _ HS.out.1 (by have a1 := HPL.out; have a2 := HCL3.out; have a3 := hE3.out; rw [indL_len] at a1; rw [List.length_append]; unfold intsL at *; have a4 : (intL y).length = 8 := rfl; omega)).mono ?_
              rintro e w2 ⟨rfl, ha, hb⟩
              have n_ := Aside0.mk (HS.out.step ha hb)
              clear HS ha hb hcell k1
              have HS := n_
              clear n_
              go_wp2
              go_roundg (x.f2.length - (jj + 1))
              case measure => omega
              case rel => exact ⟨jj + 1, by omega, by omega, by go_num, ⟨by have := HS.out; unfold intsL at this ⊢; rw [hT3.out, ← List.append_assoc]; exact this⟩⟩
            · have hljz : ¬ (jj : Int) < (x.f2.length : Int) := by omega
              have hS := HR.out
              rw [List.take_of_length_le (by omega)] at hS
              have HS := Aside0.mk hS
              clear HR hS
              have k2 := HS.out.head (j := 3) (v := .bool x.f3) rfl
              go_wp2_with fail
              refine (rtruth_calls g _ x.f3 _ HS.out.1 (by have a1 := HPL.out; have a2 := HCL3.out; rw [indL_len] at a1; (try simp only [List.length_append, e8_len, tx_len]); omega)).mono ?_
              rintro e w2 ⟨rfl, ha, hb⟩
              have n_ := Aside0.mk (HS.out.step ha hb)
              clear HS ha hb k2 k1
              have HS := n_
              clear n_
              have k1 := HS.out.head (j := 4) (v := .int .i64 x.f4) rfl
              go_wp2_with fail
              refine (rnum_calls g _ x.f4 _ HS.out.1 (by have a1 := HPL.out; have a2 := HCL3.out; rw [indL_len] at a1; (try simp only [List.length_append, e8_len, tx_len]); omega)).mono ?_
              rintro e w2 ⟨rfl, ha, hb⟩
              have n_ := Aside0.mk (HS.out.step ha hb)
              clear HS ha hb k1
              have HS := n_
              clear n_
              go_wp2
              go_roundg (t.f3.length - (kk + 1))
              case measure => omega
              case rel =>
                refine ⟨kk + 1, by omega, by omega, by go_num, ⟨?_⟩⟩
                have := HS.out.pop
                rw [← HCU3.out, ← HPR.out] at this
                unfold indsL at this ⊢
                rw [hT.out]
                unfold indL
                simp only [List.append_assoc] at this ⊢
                exact this
        · have hltz : ¬ (kk : Int) < (t.f3.length : Int) := by omega
          have hS := HR.out
          rw [List.take_of_length_le (by omega)] at hS
          have HS := Aside0.mk hS
          clear HR hS
          have k2 := HS.out.head (j := 4) (v := .int .i64 t.f4) rfl
          go_wp2_with fail
          refine (rnum_calls g _ t.f4 _ HS.out.1 (by have a1 := HL.out; have a2 := HCL2.out; rw [tabL_len] at a1; rw [List.length_append]; omega)).mono ?_
          rintro e w2 ⟨rfl, ha, hb⟩
          have n_ := Aside0.mk (HS.out.step ha hb)
          clear HS ha hb k2 k1
          have HS := n_
          clear n_
          go_wp2
          go_end0
          refine ⟨rfl, ?_, HS.out.2.1⟩
          have := HS.out.1
          rw [← HCU2.out, ← HCU.out] at this
          unfold tabL
          simp only [List.append_assoc] at this ⊢
          exact this
end Go.Proofs.YtjgomlcdmpcoaaaDoor.H
namespace Go.Proofs.YtjgomlcdmpcoaaaDoor.H
open Go.RowKit Go.Proofs.YtjgomlcdmpcoaaaDoorW.PrintWords Go.Proofs.YtjgomlcdmpcoaaaDoorW.PrintLast Go.Proofs.YtjgomlcdmpcoaaaDoorW.PrintMore
open Go.Proofs.YtjgomlcdmpcoaaaDoor.D Go.Proofs.YtjgomlcdmpcoaaaDoor
set_option linter.unusedVariables false
set_option linter.unusedSimpArgs false
set_option maxRecDepth 100000 in
set_option maxHeartbeats 16000000 in
theorem rput_calls (v : Int) (ts : List S70) (nx : Int) (hwf : ∀ t ∈ ts, TabWf t) (A : Option Addr) (c : Nat) (w : World) (hG : GL w) (g2 : k70.C w A ts.length ts) (hc : ts.length ≤ c) :
    Calls Tryd.prog 39 #[.agg #[.int .i64 v, .slice A ts.length c, .int .i64 nx]] w fun e w' => e = .returned (.tuple #[.string (putS v ts nx), .int .i64 (putE v ts nx)]) ∧ Below w.heap.size w w' := by
  have hmay := Lib.hid (fun w' (hG' : GL w') hC' => rmay_calls v ts nx (fun t ht c hc => ((hwf t ht).2.1 c hc).2.2.2) A c w' hc hC')
  have HC := Aside0.mk g2
  have big2 := g2.2.1
  have HG := Aside0.mk hG
  clear hG
  cases hs : schB v ts nx with
  | false =>
    have h1 : putS v ts nx = ⟨#[]⟩ := by unfold putS; rw [hs]; rfl
    have h2 : putE v ts nx = 3 := by unfold putE; rw [hs]; rfl
    rw [h1, h2]
    rw [hs] at hmay
    clear h1 h2 hs g2 hwf
    go_enter Tryd.func39, Tryd.ntmps39
    go_wp2_with fail
    refine (hmay.out _ (HG.out.of_below (below_alloc (Below.refl _ _) _)) (Kd.C_below HC.out (below_alloc (Below.refl _ _) _))).mono ?_
    rintro e w1 ⟨rfl, hb1⟩
    go_wp2
    go_ret2
    exact ⟨rfl, below_then (below_alloc (Below.refl _ _) _) (by simp) hb1⟩
  | true =>
    obtain ⟨hl, hl4⟩ := schB_len hs
    have h1 : putS v ts nx = sealB (strOfNums (putL v ts nx)) := by unfold putS; rw [hs]; rfl
    have h2 : putE v ts nx = 0 := by unfold putE; rw [hs]; rfl
    rw [h1, h2]
    rw [hs] at hmay
    have HL := Lib.hid hl
    clear h1 h2 hs g2 hwf hl
    go_enter Tryd.func39, Tryd.ntmps39
    go_wp2_with fail
    refine (hmay.out _ (HG.out.of_below (below_alloc (Below.refl _ _) _)) (Kd.C_below HC.out (below_alloc (Below.refl _ _) _))).mono ?_
    rintro e w1 ⟨rfl, hb1⟩
    have hbx := blk_below (heap_alloc_new w (.cells #[.int .i64 v, .slice A ts.length c, .int .i64 nx] 28)) hb1
    have hlt := lt_of_block hbx
    have H0 := Aside0.mk (below_then (below_then (below_alloc (Below.refl _ w) (.cells #[.int .i64 v, .slice A ts.length c, .int .i64 nx] 28)) (by simp) hb1) (Nat.le_of_lt hlt) (below_alloc (Below.refl _ w1) (.cells #[.slice none 0 0] 118)))
    obtain ⟨g, hgg⟩ : ∃ g, g = w1.heap.size := ⟨_, rfl⟩
    have HS := Aside0.mk (show St 118 w1.heap.size (w1.alloc (.cells #[.slice none 0 0] 118)) (w1.alloc (.cells #[.slice none 0 0] 118)) [] [(w.heap.size, #[.int .i64 v, .slice A ts.length c, .int .i64 nx], 28)] from
      ⟨WB.new 118 w1, Wr.refl _ _, fun p hp => by rw [List.mem_singleton.1 hp]; exact ⟨show (28 : Nat) ≠ 5 by decide, Nat.ne_of_lt hlt, blk_alloc hbx _⟩⟩)
    have hgW : w.heap.size ≤ g := by rw [hgg]; exact Nat.le_of_lt hlt
    rw [← hgg] at HS
    have HGG := Lib.hid hgg
    clear hb1 hbx hlt
    have k1 := HS.out.head (j := 0) (v := .int .i64 v) rfl
    obtain ⟨wS, hwS⟩ : ∃ wS, wS = w1.alloc (.cells #[.slice none 0 0] 118) := ⟨_, rfl⟩
    have HWS := Lib.hid hwS
    clear hgg hwS
    go_wp2_with fail
    rw [← HGG.out, ← HWS.out]
    rw [← HWS.out] at HS H0 k1
    refine (rnum_calls g _ v _ HS.out.1 (by have := HL.out; rw [putL_len] at this; (try simp only [List.length_append, List.length_nil, e8_len]); omega)).mono ?_
    rintro e w2 ⟨rfl, ha, hb⟩
    have n_ := Aside0.mk (HS.out.step ha hb)
    clear HS ha hb k1
    have HS := n_
    clear n_
    have k1 := HS.out.head (j := 1) (v := .slice A ts.length c) rfl
    go_wp2_with fail
    refine (rnum_calls g _ ts.length _ HS.out.1 (by have := HL.out; rw [putL_len] at this; (try simp only [List.length_append, List.length_nil, e8_len]); omega)).mono ?_
    rintro e w2 ⟨rfl, ha, hb⟩
    have n_ := Aside0.mk (HS.out.step ha hb)
    clear HS ha hb k1
    have HS := n_
    clear n_
    go_wp2_with fail
    obtain ⟨cur, hcur⟩ : ∃ cur, [] ++ e8 (un64 v) ++ e8 (un64 ts.length) = cur := ⟨_, rfl⟩
    rw [hcur] at HS
    have hcl : cur.length = 16 := by rw [← hcur]; rfl
    have HCL := Lib.hid hcl
    have HCU := Lib.hid hcur
    clear hcl hcur
    go_loopg [5] ts.length (fun gg u5 wr => ∃ kk : Nat, kk ≤ ts.length ∧ ts.length - kk ≤ gg ∧ u5 = .int .i64 kk ∧ Aside0 (St 118 g wS wr (cur ++ tabsL (ts.take kk)) [(w.heap.size, #[.int .i64 v, .slice A ts.length c, .int .i64 nx], 28)]))
    case atStart => exact ⟨0, Nat.zero_le _, by omega, rfl, ⟨by have := HS.out; rw [← List.append_nil cur] at this; exact this⟩⟩
    case round =>
      obtain ⟨kk, hkk, hgk, rfl, HR⟩ := hrel
      clear HS
      have k1 := HR.out.head (j := 1) (v := .slice A ts.length c) rfl
      by_cases hlt : kk < ts.length
      · have hltz : (kk : Int) < (ts.length : Int) := by omega
        have hBW := H0.out.trans (HR.out.2.1.below.mono hgW)
        obtain ⟨ad, A2, c2, A3, c3, eA, h0, h1, h2, h3, h4, hd2, hcols, hd3, hinds⟩ := at_T70 HC.out (kk : Int) (by omega) (by omega)
        have hx : rd_T70 ts (kk : Int) = ts[kk] := by unfold rd_T70; simp [List.getD, hlt]
        rw [hx] at h0 h1 h2 h3 h4 hd2 hcols hd3 hinds
        simp only [Int.toNat_natCast] at h0 h1 h2 h3 h4
        replace h0 := pw_cell_below hBW h0
        replace h1 := pw_cell_below hBW h1
        replace h2 := pw_cell_below hBW h2
        replace h3 := pw_cell_below hBW h3
        replace h4 := pw_cell_below hBW h4
        cases eA
        have hT := Lib.hid (fm_take tabL ts kk hlt)
        have hE := Lib.hid (fm_le tabL ts kk hlt)
        generalize ts[kk] = t at h0 h1 h2 h3 h4 hd2 hcols hd3 hinds hT hE
        have HI2 := Aside0.mk hcols
        have HI3 := Aside0.mk hinds
        have HS := HR
        clear HR
        clear hx hcols hinds hBW
        go_wp2_with fail
        refine (rtable_calls w g _ t A2 c2 A3 c3 _ HS.out.1 (H0.out.trans (HS.out.2.1.below.mono hgW)) hgW HI2.out HI3.out (by have a1 := HL.out; have a2 := HCL.out; have a3 := hE.out; rw [putL_len] at a1; rw [List.length_append]; unfold tabsL at *; omega)).mono ?_
        rintro e w2 ⟨rfl, ha, hb⟩
        have n_ := Aside0.mk (HS.out.step ha hb)
        clear HS ha hb h0 h1 h2 h3 h4 k1
        have HS := n_
        clear n_
        go_wp2
        go_roundg (ts.length - (kk + 1))
        case measure => omega
        case rel => exact ⟨kk + 1, by omega, by omega, by go_num, ⟨by have := HS.out; unfold tabsL at this ⊢; rw [hT.out, ← List.append_assoc]; exact this⟩⟩
      · have hltz : ¬ (kk : Int) < (ts.length : Int) := by omega
        have hS := HR.out
        rw [List.take_of_length_le (by omega)] at hS
        have HS := Aside0.mk hS
        clear HR hS
        have k2 := HS.out.head (j := 2) (v := .int .i64 nx) rfl
        go_wp2_with fail
        refine (rnum_calls g _ nx _ HS.out.1 (by have a1 := HL.out; have a2 := HCL.out; rw [putL_len] at a1; rw [List.length_append]; omega)).mono ?_
        rintro e w2 ⟨rfl, ha, hb⟩
        have n_ := Aside0.mk (HS.out.step ha hb)
        clear HS ha hb k2 k1
        have HS := n_
        clear n_
        have hfin : cur ++ tabsL ts ++ e8 (un64 nx) = putL v ts nx := by rw [← HCU.out]; unfold putL; simp only [List.nil_append, List.append_assoc]
        rw [hfin] at HS
        obtain ⟨bs, hbs⟩ : ∃ bs, bs = putL v ts nx := ⟨_, rfl⟩
        rw [← hbs] at HS HL
        have HBS := Lib.hid hbs
        obtain ⟨x, hv, ho⟩ := HS.out.1
        have c0 := cell_of_one hv
        have hcv := own_string (P := Tryd.prog) Tryd.underlying61 Tryd.underlying5 Tryd.underlying9 ho
        have hz : (strOfNums bs).size = bs.length := strOfNums_size bs
        have hq := Lib.hid (rseal_calls (strOfNums bs) w2 (by rw [hz]; have := HL.out; unfold maxLen; omega))
        have HBW := Aside0.mk (H0.out.trans (HS.out.2.1.below.mono hgW))
        clear hfin hbs hv ho HS hz
        go_wp2_with (go_at_call 81; refine hq.out.mono ?_; rintro e w3 ⟨rfl, hb3⟩)
        go_ret2
        refine ⟨by rw [← HBS.out]; rfl, below_then HBW.out HBW.out.size hb3⟩
end Go.Proofs.YtjgomlcdmpcoaaaDoor.H
namespace Go.Proofs.YtjgomlcdmpcoaaaDoor.H
open Go.RowKit Go.Proofs.YtjgomlcdmpcoaaaDoorW.PrintWords Go.Proofs.YtjgomlcdmpcoaaaDoorW.PrintLast Go.Proofs.YtjgomlcdmpcoaaaDoorW.PrintMore
open Go.Proofs.YtjgomlcdmpcoaaaDoor.D Go.Proofs.YtjgomlcdmpcoaaaDoor
set_option linter.unusedVariables false
set_option linter.unusedSimpArgs false
set_option maxRecDepth 100000 in
set_option maxHeartbeats 1000000 in
theorem dget_unsealed (t : ByteArray) (w : World) (hs : t.size ≤ 25000) (hn : ¬ isSeal t) :
    Calls Tryd.prog 44 #[.string t] w fun e w' => e = .returned (.tuple #[.agg #[.int .i64 0, .slice none 0 0, .int .i64 0], .int .i64 3]) ∧ Below w.heap.size w w' := by
  have hc : ∀ w, Calls Tryd.prog 86 #[.string t] w fun e w' => e = .returned (.tuple #[.string ⟨#[]⟩, .int .i64 3]) ∧ Below w.heap.size w w' := fun w => by
    rcases sget_calls t w (by unfold maxLen; omega) with ⟨h1, _⟩ | ⟨_, h1⟩
    · exact absurd h1 hn
    · exact h1
  have HC := Lib.hid hc
  clear hc hn
  go_enter_defers Tryd.func44, Tryd.ntmps44
  go_wp2_with fail
  refine (HC.out _).mono ?_
  rintro e w1 ⟨rfl, hb1⟩
  have hx0 := blk_below (heap_alloc_old' _ (Obj.cells #[.int .i64 0] 30) (heap_alloc_new w (Obj.cells #[.int .i64 0, .slice none 0 0, .int .i64 0] 28))) hb1
  have hx1 := blk_below (heap_alloc_new (w.alloc (Obj.cells #[.int .i64 0, .slice none 0 0, .int .i64 0] 28)) (Obj.cells #[.int .i64 0] 30)) hb1
  have hB : Below w.heap.size w w1 := below_then (below_alloc (below_alloc (Below.refl _ _) _) _) (by simp; omega) hb1
  have hz : w.heap.size + 2 ≤ w1.heap.size := by have := hb1.size; simpa using this
  rw [show (w.alloc (Obj.cells #[.int .i64 0, .slice none 0 0, .int .i64 0] 28)).heap.size = w.heap.size + 1 by simp] at hx1
  obtain ⟨g, hg⟩ : ∃ g, w.heap.size = g := ⟨_, rfl⟩
  rw [hg] at hx0 hx1 hz ⊢
  have a0 : w1.cell? ⟨g, 0, none⟩ = some (.int .i64 0) := Go.Proofs.YtjgomlcdmpcoaaaDoorW.PrintWords.blk_cell hx0 0
  have a1 : w1.cell? ⟨g, 1, none⟩ = some (.slice none 0 0) := Go.Proofs.YtjgomlcdmpcoaaaDoorW.PrintWords.blk_cell hx0 1
  have a2 : w1.cell? ⟨g, 2, none⟩ = some (.int .i64 0) := Go.Proofs.YtjgomlcdmpcoaaaDoorW.PrintWords.blk_cell hx0 2
  have f0 : w1.frozen? ⟨g, 0, none⟩ = false := blk_frozen hx0 0
  have f1 : w1.frozen? ⟨g, 1, none⟩ = false := blk_frozen hx0 1
  have f2 : w1.frozen? ⟨g, 2, none⟩ = false := blk_frozen hx0 2
  have f3 : w1.frozen? ⟨g + 1, 0, none⟩ = false := blk_frozen hx1 0
  have a3 : w1.cell? ⟨g + 1, 0, none⟩ = some (.int .i64 0) := Go.Proofs.YtjgomlcdmpcoaaaDoorW.PrintWords.blk_cell hx1 0
  go_wp2_with fail
  have hy1 := blk_put hx1 0 (.int .i64 3) rfl
  have hy0 := blk_far hx0 (p := ⟨g + 1, 0, none⟩) (by simp) (.int .i64 3)
  have hz2 : g + 2 ≤ (w1.setCell ⟨g + 1, 0, none⟩ (.int .i64 3)).heap.size := by simpa [World.setCell] using hz
  have hB2 : Below w.heap.size w (w1.setCell ⟨g + 1, 0, none⟩ (.int .i64 3)) := below_set hB (by omega)
  clear a0 a1 a2 a3 f0 f1 f2 f3 hx0 hx1 hb1 hB hz
  generalize w1.setCell ⟨g + 1, 0, none⟩ (.int .i64 3) = w2 at hy0 hy1 hz2 hB2 ⊢
  have a0 : w2.cell? ⟨g, 0, none⟩ = some (.int .i64 0) := Go.Proofs.YtjgomlcdmpcoaaaDoorW.PrintWords.blk_cell hy0 0
  have a1 : w2.cell? ⟨g, 1, none⟩ = some (.slice none 0 0) := Go.Proofs.YtjgomlcdmpcoaaaDoorW.PrintWords.blk_cell hy0 1
  have a2 : w2.cell? ⟨g, 2, none⟩ = some (.int .i64 0) := Go.Proofs.YtjgomlcdmpcoaaaDoorW.PrintWords.blk_cell hy0 2
  have f0 : w2.frozen? ⟨g, 0, none⟩ = false := blk_frozen hy0 0
  have f1 : w2.frozen? ⟨g, 1, none⟩ = false := blk_frozen hy0 1
  have f2 : w2.frozen? ⟨g, 2, none⟩ = false := blk_frozen hy0 2
  have f3 : w2.frozen? ⟨g + 1, 0, none⟩ = false := blk_frozen hy1 0
  have a3 : w2.cell? ⟨g + 1, 0, none⟩ = some (.int .i64 3) := Go.Proofs.YtjgomlcdmpcoaaaDoorW.PrintWords.blk_cell hy1 0
  have hu0 := blk_far (blk_put (blk_put (blk_put hy0 0 (.int .i64 0) rfl) 1 (.slice none 0 0) rfl) 2 (.int .i64 0) rfl) (p := ⟨g + 1, 0, none⟩) (by simp) (.int .i64 3)
  have hu1 := blk_put (blk_far (blk_far (blk_far hy1 (p := ⟨g, 0, none⟩) (by simp) (.int .i64 0)) (p := ⟨g, 1, none⟩) (by simp) (.slice none 0 0)) (p := ⟨g, 2, none⟩) (by simp) (.int .i64 0)) 0 (.int .i64 3) rfl
  have hB3 : Below w.heap.size w ((((w2.setCell ⟨g, 0, none⟩ (.int .i64 0)).setCell ⟨g, 1, none⟩ (.slice none 0 0)).setCell ⟨g, 2, none⟩ (.int .i64 0)).setCell ⟨g + 1, 0, none⟩ (.int .i64 3)) :=
    below_set (below_set (below_set (below_set hB2 (by omega)) (by omega)) (by omega)) (by omega)
  have HB3 := Aside0.mk hB3
  clear hB2 hB3
  go_region
  clear a0 a1 a2 a3 f0 f1 f2 f3 hy0 hy1 hz2
  generalize ((((w2.setCell ⟨g, 0, none⟩ (.int .i64 0)).setCell ⟨g, 1, none⟩ (.slice none 0 0)).setCell ⟨g, 2, none⟩ (.int .i64 0)).setCell ⟨g + 1, 0, none⟩ (.int .i64 3)) = w3 at hu0 hu1 HB3 ⊢
  have a0 : w3.cell? ⟨g, 0, none⟩ = some (.int .i64 0) := Go.Proofs.YtjgomlcdmpcoaaaDoorW.PrintWords.blk_cell hu0 0
  have a1 : w3.cell? ⟨g, 1, none⟩ = some (.slice none 0 0) := Go.Proofs.YtjgomlcdmpcoaaaDoorW.PrintWords.blk_cell hu0 1
  have a2 : w3.cell? ⟨g, 2, none⟩ = some (.int .i64 0) := Go.Proofs.YtjgomlcdmpcoaaaDoorW.PrintWords.blk_cell hu0 2
  have a3 : w3.cell? ⟨g + 1, 0, none⟩ = some (.int .i64 3) := Go.Proofs.YtjgomlcdmpcoaaaDoorW.PrintWords.blk_cell hu1 0
  go_wp2
  refine ⟨.tuple #[.agg #[.int .i64 0, .slice none 0 0, .int .i64 0], .int .i64 3], ?_, rfl, HB3.out.drew⟩
  simp [results, Tryd.results44, a0, a1, a2, a3, go_sem]
set_option maxRecDepth 100000 in
set_option maxHeartbeats 1000000 in
theorem same_zero (w : World) : Calls Tryd.prog 45 #[.agg #[.int .i64 0, .slice none 0 0, .int .i64 0], .agg #[.int .i64 0, .slice none 0 0, .int .i64 0]] w fun e w' => e = .returned (.bool true) ∧ Below w.heap.size w w' := by
  go_enter Tryd.func45, Tryd.ntmps45
  go_wp2
  go_loopg [5] 0 (fun gg u5 wr => u5 = .int .i64 0 ∧ wr = (w.alloc (.cells #[.int .i64 0, .slice none 0 0, .int .i64 0] 28)).alloc (.cells #[.int .i64 0, .slice none 0 0, .int .i64 0] 28))
  case atStart => exact ⟨rfl, rfl⟩
  case round =>
    obtain ⟨rfl, rfl⟩ := hrel
    go_wp2
    go_ret
    exact ⟨rfl, below_alloc (below_alloc (Below.refl _ _) _) _⟩
set_option maxRecDepth 100000 in
set_option maxHeartbeats 4000000 in
theorem descGets_calls (s : ByteArray) (hs : s.size ≤ maxLen) (w : World) (hG : GL w) :
    Calls Tryd.prog 12 #[.string s] w fun e w' => e = .returned (.bool true) ∧ Below w.heap.size w w' := by
  have H4 := Lib.hid awake6_calls
  have HZ := Lib.hid same_zero
  have HG := Aside0.mk hG
  unfold maxLen at hs
  by_cases hL : 20000 < s.size
  · have hz : decide ((20000 : Int) < (s.size : Int)) = true := decide_eq_true (by omega)
    clear hG
    go_enter Tryd.func12, Tryd.ntmps12
    go_wp2_with fail
    refine (H4.out _ HG.out).mono ?_
    rintro e w1 ⟨rfl, hb1⟩
    go_wp2
    go_ret
    exact ⟨rfl, hb1⟩
  · have hz : decide ((20000 : Int) < (s.size : Int)) = false := decide_eq_false (by omega)
    have hP : ∃ o, (∀ v ts nx r, o = some ((v, ts, nx), r) → ∀ t ∈ ts, TabWf t) ∧ ∀ w, GL w → Calls Tryd.prog 44 #[.string s] w (GPost s w o) := by
      by_cases hsl : isSeal s
      · have hw := rdSch_wf (bytesOf (bodyOf s)) (bytes_in _ (by unfold bodyOf; rw [ByteArray.size_extract]; omega))
        exact ⟨_, hw, fun w hG => dget_read s w hG (by omega) hsl hw⟩
      · exact ⟨none, fun _ _ _ _ h => (by cases h), fun w _ => (dget_unsealed s w (by omega) hsl).mono fun e w' h => ⟨h.2, h.1⟩⟩
    obtain ⟨o, hwf, hg⟩ := hP
    have H2 := Lib.hid (hg w hG)
    have HW := Lib.hid hwf
    clear hg hwf hG
    go_enter Tryd.func12, Tryd.ntmps12
    go_wp2_with fail
    refine H2.out.mono fun e w1 hp => ?_
    obtain ⟨hb1, hp⟩ := hp
    have HB1 := Aside0.mk hb1
    clear hb1
    have hcase : e = refused ∨ ∃ v ts nx r A c, o = some ((v, ts, nx), r) ∧ putE v ts nx = 0 ∧ putS v ts nx = s ∧ e = .returned (.tuple #[.agg #[.int .i64 v, .slice A ts.length c, .int .i64 nx], .int .i64 0]) ∧ k70.R 70 w1 w.heap.size (fun _ => True) (.slice A ts.length c) ts := by
      match o, hp with
      | none, h => exact .inl h
      | some ((v, ts, nx), r), .inl ⟨h1, h2, A, c, h3, h4⟩ => exact .inr ⟨v, ts, nx, r, A, c, rfl, h1, h2, h3, h4⟩
      | some ((v, ts, nx), r), .inr ⟨_, h⟩ => exact .inl h
    clear hp
    rcases hcase with he | ⟨v, ts, nx, r, A, c, ho, h1, h2, he, hr⟩
    · have he' : e = .returned (.tuple #[.agg #[.int .i64 0, .slice none 0 0, .int .i64 0], .int .i64 3]) := he
      subst he'
      clear he
      go_wp2_with (go_at_call 40; refine (num6_calls _ _).mono ?_; rintro e w' ⟨rfl, rfl⟩)
      refine (HZ.out _).mono ?_
      rintro e w2 ⟨rfl, hb2⟩
      have HB2 := Aside0.mk (below_then (below_alloc HB1.out _) (by have := HB1.out.size; simp; omega) hb2)
      clear hb2
      go_wp2_with fail
      refine (H4.out _ (HG.out.of_below HB2.out)).mono ?_
      rintro e w3 ⟨rfl, hb3⟩
      have HB3 := Aside0.mk (below_then HB2.out HB2.out.size hb3)
      clear hb3
      go_wp2
      go_ret
      exact ⟨rfl, HB3.out⟩
    · subst he
      obtain ⟨-, hc, hC⟩ := Kd.R_reads' hr
      have hba := below_alloc HB1.out (.cells #[.int .i64 v, .slice A ts.length c, .int .i64 nx] 28)
      have H3 := Lib.hid (rput_calls v ts nx (HW.out v ts nx r ho) A c (w1.alloc (.cells #[.int .i64 v, .slice A ts.length c, .int .i64 nx] 28)) (HG.out.of_below hba) (Kd.C_below hC (below_alloc (Below.refl _ _) _)) hc)
      rw [h1, h2] at H3
      clear h1 h2 hr hC hba ho HW
      go_wp2_with (go_at_call 40; refine (num6_calls _ _).mono ?_; rintro e w' ⟨rfl, rfl⟩)
      refine H3.out.mono ?_
      rintro e w2 ⟨rfl, hb2⟩
      have HB2 := Aside0.mk (below_then (below_alloc HB1.out _) (by have := HB1.out.size; simp; omega) hb2)
      clear hb2
      go_wp2_with fail
      refine (H4.out _ (HG.out.of_below HB2.out)).mono ?_
      rintro e w3 ⟨rfl, hb3⟩
      have HB3 := Aside0.mk (below_then HB2.out HB2.out.size hb3)
      clear hb3
      go_wp2
      go_ret
      exact ⟨rfl, HB3.out⟩
end Go.Proofs.YtjgomlcdmpcoaaaDoor.H
