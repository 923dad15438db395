/- Own texts of this session, packed by its program wip/pp/pack.py: lemmas and walks of functions. -/
import Derived.IntWalk
import Derived.Deep.RegionHeld3
import Derived.Deep.RegionLaw
import Derived.Defers
import Derived.Deep.QuietTactic
import Derived.Test.YtjgomlcdmpcoaaaDoorKJob2
import Derived.Test.YtjgomlcdmpcoaaaDoorKJob7
import Derived.Test.YtjgomlcdmpcoaaaDoorKJob9
import Derived.Test.YtjgomlcdmpcoaaaDoorKJob10
import Derived.Test.YtjgomlcdmpcoaaaDoorKJob11
namespace Go.Proofs.YtjgomlcdmpcoaaaDoor.H
open Go.RowKit Go.Proofs.YtjgomlcdmpcoaaaDoorW.PrintWords Go.Proofs.YtjgomlcdmpcoaaaDoorW.PrintLast Go.Proofs.YtjgomlcdmpcoaaaDoorW.PrintMore
open Go.Proofs.YtjgomlcdmpcoaaaDoor.D Go.Proofs.YtjgomlcdmpcoaaaDoor
set_option linter.unusedVariables false
set_option linter.unusedSimpArgs false
def jL (a0 a1 a2 a3 a4 : Int) (rd : Bool) (fr : ByteArray) (bad : Bool) : List Int := e8 (un64 a0) ++ (e8 (un64 a1) ++ (e8 (un64 a2) ++ (e8 (un64 a3) ++ (e8 (un64 a4) ++ (e8 (tru rd) ++ (tx fr ++ e8 (tru bad)))))))
theorem jL_len (a0 a1 a2 a3 a4 : Int) (rd : Bool) (fr : ByteArray) (bad : Bool) : (jL a0 a1 a2 a3 a4 rd fr bad).length = 64 + fr.size := by unfold jL; simp only [List.length_append, e8_len, tx_len]; omega
def jputS (a0 a1 a2 a3 a4 : Int) (rd : Bool) (fr : ByteArray) (bad : Bool) : ByteArray := if jobB a0 a1 a2 a3 a4 fr bad = true then sealB (strOfNums (jL a0 a1 a2 a3 a4 rd fr bad)) else ⟨#[]⟩
def jputE (a0 a1 a2 a3 a4 : Int) (fr : ByteArray) (bad : Bool) : Int := if jobB a0 a1 a2 a3 a4 fr bad = true then 0 else 1
theorem jobB_fr {a0 a1 a2 a3 a4 : Int} {fr : ByteArray} {bad : Bool} (h : jobB a0 a1 a2 a3 a4 fr bad = true) : fr.size ≤ 1001 := by
  unfold jobB at h
  simp only [Bool.and_eq_true, decide_eq_true_eq] at h
  exact h.2.2.2.2.2.2.2.2.2.2.1
def fiveL (l : List Int) : List Int := l.flatMap fun n => e8 (un64 n)
theorem fiveL_len (l : List Int) : (fiveL l).length = l.length * 8 := by
  induction l with
  | nil => rfl
  | cons x l ih => show (e8 (un64 x) ++ fiveL l).length = _; rw [List.length_append, e8_len, ih, List.length_cons]; omega
theorem five_cell (l : List Int) (k : Nat) (h : k < l.length) : (l.map (Value.int .i64)).toArray[k]? = some (.int .i64 l[k]) := by simp [h]
set_option maxRecDepth 100000 in
set_option maxHeartbeats 16000000 in
theorem rjput_calls (a0 a1 a2 a3 a4 : Int) (rd : Bool) (fr : ByteArray) (bad : Bool) (w : World) :
    Calls Tryd.prog 42 #[.agg #[.int .i64 a0, .int .i64 a1, .int .i64 a2, .int .i64 a3, .int .i64 a4, .bool rd, .string fr, .bool bad]] w fun e w' => e = .returned (.tuple #[.string (jputS a0 a1 a2 a3 a4 rd fr bad), .int .i64 (jputE a0 a1 a2 a3 a4 fr bad)]) ∧ Below w.heap.size w w' := by
  have HM := Lib.hid (fun w => rjmay_calls a0 a1 a2 a3 a4 rd fr bad w)
  cases hs : jobB a0 a1 a2 a3 a4 fr bad with
  | false =>
    rw [show jputS a0 a1 a2 a3 a4 rd fr bad = ⟨#[]⟩ by unfold jputS; rw [hs]; rfl, show jputE a0 a1 a2 a3 a4 fr bad = 1 by unfold jputE; rw [hs]; rfl]
    rw [hs] at HM
    clear hs
    go_enter Tryd.func42, Tryd.ntmps42
    go_wp2_with fail
    refine (HM.out _).mono ?_
    rintro e w1 ⟨rfl, hb1⟩
    go_wp2
    go_ret2
    exact ⟨rfl, below_then (below_alloc (Below.refl _ _) _) (by simp) hb1⟩
  | true =>
    have hl := jobB_fr hs
    rw [show jputS a0 a1 a2 a3 a4 rd fr bad = sealB (strOfNums (jL a0 a1 a2 a3 a4 rd fr bad)) by unfold jputS; rw [hs]; rfl, show jputE a0 a1 a2 a3 a4 fr bad = 0 by unfold jputE; rw [hs]; rfl]
    rw [hs] at HM
    clear hs
    go_enter Tryd.func42, Tryd.ntmps42
    go_wp2_with fail
    refine (HM.out _).mono ?_
    rintro e w1 ⟨rfl, hb1⟩
    have hbx := blk_below (heap_alloc_new w (.cells #[.int .i64 a0, .int .i64 a1, .int .i64 a2, .int .i64 a3, .int .i64 a4, .bool rd, .string fr, .bool bad] 23)) hb1
    have hlt := lt_of_block hbx
    have H0 := Aside0.mk (below_then (below_then (below_alloc (Below.refl _ w) (.cells #[.int .i64 a0, .int .i64 a1, .int .i64 a2, .int .i64 a3, .int .i64 a4, .bool rd, .string fr, .bool bad] 23)) (by simp) hb1) (Nat.le_of_lt hlt) (below_alloc (Below.refl _ w1) (.cells #[.slice none 0 0] 118)))
    obtain ⟨g, hgg⟩ : ∃ g, g = w1.heap.size := ⟨_, rfl⟩
    have HS := Aside0.mk (show St 118 w1.heap.size (w1.alloc (.cells #[.slice none 0 0] 118)) (w1.alloc (.cells #[.slice none 0 0] 118)) [] [(w.heap.size, #[.int .i64 a0, .int .i64 a1, .int .i64 a2, .int .i64 a3, .int .i64 a4, .bool rd, .string fr, .bool bad], 23)] from
      ⟨WB.new 118 w1, Wr.refl _ _, fun p hp => by rw [List.mem_singleton.1 hp]; exact ⟨show (23 : Nat) ≠ 5 by decide, Nat.ne_of_lt hlt, blk_alloc hbx _⟩⟩)
    have hgW : w.heap.size ≤ g := by rw [hgg]; exact Nat.le_of_lt hlt
    rw [← hgg] at HS
    have HGG := Lib.hid hgg
    clear hb1 hbx hlt
    obtain ⟨wS, hwS⟩ : ∃ wS, wS = w1.alloc (.cells #[.slice none 0 0] 118) := ⟨_, rfl⟩
    have HWS := Lib.hid hwS
    clear hgg hwS
    have kx := HS.out.head (j := 0) (v := .int .i64 a0) rfl
    go_wp2_with fail
    rw [← HGG.out, ← HWS.out]
    rw [← HWS.out] at HS H0
    clear kx
    have kx := HS.out.head (j := 0) (v := .int .i64 a0) rfl
    go_wp2_with fail
    refine (rnum_calls g _ a0 _ HS.out.1 (by (try simp only [List.length_append, List.length_nil, e8_len, tx_len, bytesOf_length, fiveL_len, List.length_take, List.length_cons, List.nil_append]); omega)).mono ?_
    rintro e w2 ⟨rfl, ha, hb⟩
    have n_ := Aside0.mk (HS.out.step ha hb)
    clear HS ha hb
    have HS := n_
    clear n_ kx
    have kx := HS.out.head (j := 1) (v := .int .i64 a1) rfl
    go_wp2_with fail
    refine (rnum_calls g _ a1 _ HS.out.1 (by (try simp only [List.length_append, List.length_nil, e8_len, tx_len, bytesOf_length, fiveL_len, List.length_take, List.length_cons, List.nil_append]); omega)).mono ?_
    rintro e w2 ⟨rfl, ha, hb⟩
    have n_ := Aside0.mk (HS.out.step ha hb)
    clear HS ha hb
    have HS := n_
    clear n_ kx
    have kx := HS.out.head (j := 2) (v := .int .i64 a2) rfl
    go_wp2_with fail
    refine (rnum_calls g _ a2 _ HS.out.1 (by (try simp only [List.length_append, List.length_nil, e8_len, tx_len, bytesOf_length, fiveL_len, List.length_take, List.length_cons, List.nil_append]); omega)).mono ?_
    rintro e w2 ⟨rfl, ha, hb⟩
    have n_ := Aside0.mk (HS.out.step ha hb)
    clear HS ha hb
    have HS := n_
    clear n_ kx
    have kx := HS.out.head (j := 3) (v := .int .i64 a3) rfl
    go_wp2_with fail
    refine (rnum_calls g _ a3 _ HS.out.1 (by (try simp only [List.length_append, List.length_nil, e8_len, tx_len, bytesOf_length, fiveL_len, List.length_take, List.length_cons, List.nil_append]); omega)).mono ?_
    rintro e w2 ⟨rfl, ha, hb⟩
    have n_ := Aside0.mk (HS.out.step ha hb)
    clear HS ha hb
    have HS := n_
    clear n_ kx
    have kx := HS.out.head (j := 4) (v := .int .i64 a4) rfl
    go_wp2_with fail
    refine (rnum_calls g _ a4 _ HS.out.1 (by (try simp only [List.length_append, List.length_nil, e8_len, tx_len, bytesOf_length, fiveL_len, List.length_take, List.length_cons, List.nil_append]); omega)).mono ?_
    rintro e w2 ⟨rfl, ha, hb⟩
    have n_ := Aside0.mk (HS.out.step ha hb)
    clear HS ha hb
    have HS := n_
    clear n_ kx
    have kx := HS.out.head (j := 5) (v := .bool rd) rfl
    go_wp2_with fail
    refine (rtruth_calls g _ rd _ HS.out.1 (by (try simp only [List.length_append, List.length_nil, e8_len, tx_len, bytesOf_length, fiveL_len, List.length_take, List.length_cons, List.nil_append]); omega)).mono ?_
    rintro e w2 ⟨rfl, ha, hb⟩
    have n_ := Aside0.mk (HS.out.step ha hb)
    clear HS ha hb
    have HS := n_
    clear n_ kx
    have kx := HS.out.head (j := 6) (v := .string fr) rfl
    go_wp2_with fail
    refine (rtext_calls g _ fr _ HS.out.1 (by (try simp only [List.length_append, List.length_nil, e8_len, tx_len, bytesOf_length, fiveL_len, List.length_take, List.length_cons, List.nil_append]); omega)).mono ?_
    rintro e w2 ⟨rfl, ha, hb⟩
    have n_ := Aside0.mk (HS.out.step ha hb)
    clear HS ha hb
    have HS := n_
    clear n_ kx
    have kx := HS.out.head (j := 7) (v := .bool bad) rfl
    go_wp2_with fail
    refine (rtruth_calls g _ bad _ HS.out.1 (by (try simp only [List.length_append, List.length_nil, e8_len, tx_len, bytesOf_length, fiveL_len, List.length_take, List.length_cons, List.nil_append]); omega)).mono ?_
    rintro e w2 ⟨rfl, ha, hb⟩
    have n_ := Aside0.mk (HS.out.step ha hb)
    clear HS ha hb
    have HS := n_
    clear n_ kx
    have hfin : [] ++ e8 (un64 a0) ++ e8 (un64 a1) ++ e8 (un64 a2) ++ e8 (un64 a3) ++ e8 (un64 a4) ++ e8 (tru rd) ++ tx fr ++ e8 (tru bad) = jL a0 a1 a2 a3 a4 rd fr bad := by unfold jL; simp only [List.nil_append, List.append_assoc]
    rw [hfin] at HS
    have hjl := jL_len a0 a1 a2 a3 a4 rd fr bad
    obtain ⟨bs, hbs⟩ : ∃ bs, bs = jL a0 a1 a2 a3 a4 rd fr bad := ⟨_, rfl⟩
    rw [← hbs] at HS hjl
    have HBS := Lib.hid hbs
    obtain ⟨x, hv, ho⟩ := HS.out.1
    have c0 := cell_of_one hv
    have hcv := own_string (P := Tryd.prog) Tryd.underlying61 Tryd.underlying5 Tryd.underlying9 ho
    have hz : (strOfNums bs).size = bs.length := strOfNums_size bs
    have hq := Lib.hid (rseal_calls (strOfNums bs) w2 (by rw [hz]; unfold maxLen; omega))
    have HBW := Aside0.mk (H0.out.trans (HS.out.2.1.below.mono hgW))
    clear hfin hbs hv ho HS hz hjl
    go_wp2_with (go_at_call 81; refine hq.out.mono ?_; rintro e w3 ⟨rfl, hb3⟩)
    go_ret2
    exact ⟨by rw [← HBS.out] <;> rfl, below_then HBW.out HBW.out.size hb3⟩
set_option maxRecDepth 100000 in
set_option maxHeartbeats 16000000 in
theorem jput_calls (a0 a1 a2 a3 a4 : Int) (rd : Bool) (fr : ByteArray) (bad : Bool) (w : World) :
    Calls Tryd.prog 41 #[.agg #[.int .i64 a0, .int .i64 a1, .int .i64 a2, .int .i64 a3, .int .i64 a4, .bool rd, .string fr, .bool bad]] w fun e w' => e = .returned (.tuple #[.string (jputS a0 a1 a2 a3 a4 rd fr bad), .int .i64 (jputE a0 a1 a2 a3 a4 fr bad)]) ∧ Below w.heap.size w w' := by
  have HM := Lib.hid (fun w => jmay_calls a0 a1 a2 a3 a4 rd fr bad w)
  cases hs : jobB a0 a1 a2 a3 a4 fr bad with
  | false =>
    rw [show jputS a0 a1 a2 a3 a4 rd fr bad = ⟨#[]⟩ by unfold jputS; rw [hs]; rfl, show jputE a0 a1 a2 a3 a4 fr bad = 1 by unfold jputE; rw [hs]; rfl]
    rw [hs] at HM
    clear hs
    go_enter Tryd.func41, Tryd.ntmps41
    go_wp2_with fail
    refine (HM.out _).mono ?_
    rintro e w1 ⟨rfl, hb1⟩
    go_wp2
    go_ret2
    exact ⟨rfl, below_then (below_alloc (Below.refl _ _) _) (by simp) hb1⟩
  | true =>
    have hl := jobB_fr hs
    rw [show jputS a0 a1 a2 a3 a4 rd fr bad = sealB (strOfNums (jL a0 a1 a2 a3 a4 rd fr bad)) by unfold jputS; rw [hs]; rfl, show jputE a0 a1 a2 a3 a4 fr bad = 0 by unfold jputE; rw [hs]; rfl]
    rw [hs] at HM
    clear hs
    go_enter Tryd.func41, Tryd.ntmps41
    go_wp2_with fail
    refine (HM.out _).mono ?_
    rintro e w1 ⟨rfl, hb1⟩
    have hbx := blk_below (heap_alloc_new w (.cells #[.int .i64 a0, .int .i64 a1, .int .i64 a2, .int .i64 a3, .int .i64 a4, .bool rd, .string fr, .bool bad] 23)) hb1
    have hlt := lt_of_block hbx
    have H0 := Aside0.mk (below_then (below_then (below_alloc (Below.refl _ w) (.cells #[.int .i64 a0, .int .i64 a1, .int .i64 a2, .int .i64 a3, .int .i64 a4, .bool rd, .string fr, .bool bad] 23)) (by simp) hb1) (Nat.le_of_lt hlt) (below_alloc (Below.refl _ w1) (.cells #[.slice none 0 0] 121)))
    obtain ⟨g, hgg⟩ : ∃ g, g = w1.heap.size := ⟨_, rfl⟩
    have HS := Aside0.mk (show St 121 w1.heap.size (w1.alloc (.cells #[.slice none 0 0] 121)) (w1.alloc (.cells #[.slice none 0 0] 121)) [] [(w.heap.size, #[.int .i64 a0, .int .i64 a1, .int .i64 a2, .int .i64 a3, .int .i64 a4, .bool rd, .string fr, .bool bad], 23)] from
      ⟨WB.new 121 w1, Wr.refl _ _, fun p hp => by rw [List.mem_singleton.1 hp]; exact ⟨show (23 : Nat) ≠ 5 by decide, Nat.ne_of_lt hlt, blk_alloc hbx _⟩⟩)
    have hgW : w.heap.size ≤ g := by rw [hgg]; exact Nat.le_of_lt hlt
    rw [← hgg] at HS
    have HGG := Lib.hid hgg
    clear hb1 hbx hlt
    obtain ⟨wS, hwS⟩ : ∃ wS, wS = w1.alloc (.cells #[.slice none 0 0] 121) := ⟨_, rfl⟩
    have HWS := Lib.hid hwS
    clear hgg hwS
    obtain ⟨i0, hi0, hz0, hz1, hz2⟩ := info_parts D.info5
    have k0 := HS.out.head (j := 0) (v := .int .i64 a0) rfl
    have k1 := HS.out.head (j := 1) (v := .int .i64 a1) rfl
    have k2 := HS.out.head (j := 2) (v := .int .i64 a2) rfl
    have k3 := HS.out.head (j := 3) (v := .int .i64 a3) rfl
    have k4 := HS.out.head (j := 4) (v := .int .i64 a4) rfl
    go_wp2_with fail
    rw [← HGG.out, ← HWS.out]
    rw [← HWS.out] at HS H0
    clear k0 k1 k2 k3 k4
    have hbg : wS.heap.size = g + 1 := by rw [HWS.out, HGG.out]; simp
    have hS2 := HS.out.box #[.int .i64 a0, .int .i64 a1, .int .i64 a2, .int .i64 a3, .int .i64 a4] 3 (by decide)
    rw [hbg] at hS2
    have HS2 := Aside0.mk hS2
    clear HS hS2 hbg
    go_loopg [24, 6] 5 (fun gg u24 u6 wr => ∃ kk : Nat, kk ≤ 5 ∧ 5 - kk ≤ gg ∧ u24 = .int .i64 kk ∧ Aside0 (St 121 g wS wr (fiveL ([a0, a1, a2, a3, a4].take kk)) [(g + 1, #[.int .i64 a0, .int .i64 a1, .int .i64 a2, .int .i64 a3, .int .i64 a4], 3), (w.heap.size, #[.int .i64 a0, .int .i64 a1, .int .i64 a2, .int .i64 a3, .int .i64 a4, .bool rd, .string fr, .bool bad], 23)]))
    case atStart => exact ⟨0, by omega, by omega, rfl, HS2⟩
    case round =>
      obtain ⟨kk, hkk, hgk, rfl, HS⟩ := hrel
      clear HS2
      by_cases hlt : kk < 5
      · have hltz : (kk : Int) < 5 := by omega
        have hk0 : (0 : Int) ≤ (kk : Int) := by omega
        have kx := HS.out.head (j := kk) (v := .int .i64 ([a0, a1, a2, a3, a4][kk]'hlt)) (five_cell [a0, a1, a2, a3, a4] kk hlt)
        have hT : fiveL ([a0, a1, a2, a3, a4].take (kk + 1)) = fiveL ([a0, a1, a2, a3, a4].take kk) ++ e8 (un64 ([a0, a1, a2, a3, a4][kk]'hlt)) := fm_take (fun n => e8 (un64 n)) [a0, a1, a2, a3, a4] kk hlt
        have hLn : (fiveL ([a0, a1, a2, a3, a4].take kk)).length ≤ 40 := by rw [fiveL_len, List.length_take]; omega
        generalize [a0, a1, a2, a3, a4][kk]'hlt = n at kx hT
        have HTT := Lib.hid hT
        have HLN := Lib.hid hLn
        clear hT hLn
        go_wp2_with fail
        refine (jnum_calls g _ n _ HS.out.1 (by have := HLN.out; omega)).mono ?_
        rintro e w2 ⟨rfl, ha, hb⟩
        have n_ := Aside0.mk (HS.out.step ha hb)
        clear HS ha hb kx
        rw [← HTT.out] at n_
        go_wp2
        go_roundg (5 - (kk + 1))
        case measure => omega
        case rel => exact ⟨kk + 1, by omega, by omega, by go_num, n_⟩
      · obtain rfl : kk = 5 := by omega
        have n_ := Aside0.mk HS.out.pop
        clear HS
        have HS := n_
        clear n_
        have hltz : ¬ ((5 : Nat) : Int) < 5 := by omega
        have kx := HS.out.head (j := 5) (v := .bool rd) rfl
        go_wp2_with fail
        refine (jtruth_calls g _ rd _ HS.out.1 (by (try simp only [List.length_append, List.length_nil, e8_len, tx_len, bytesOf_length, fiveL_len, List.length_take, List.length_cons, List.nil_append]); omega)).mono ?_
        rintro e w2 ⟨rfl, ha, hb⟩
        have n_ := Aside0.mk (HS.out.step ha hb)
        clear HS ha hb
        have HS := n_
        clear n_ kx
        have kx := HS.out.head (j := 6) (v := .string fr) rfl
        go_wp2_with fail
        refine (jnum_calls g _ fr.size _ HS.out.1 (by (try simp only [List.length_append, List.length_nil, e8_len, tx_len, bytesOf_length, fiveL_len, List.length_take, List.length_cons, List.nil_append]); omega)).mono ?_
        rintro e w2 ⟨rfl, ha, hb⟩
        have n_ := Aside0.mk (HS.out.step ha hb)
        clear HS ha hb
        have HS := n_
        clear n_ kx
        obtain ⟨cur, hcur⟩ : ∃ cur, fiveL ([a0, a1, a2, a3, a4].take 5) ++ e8 (tru rd) ++ e8 (un64 fr.size) = cur := ⟨_, rfl⟩
        rw [hcur] at HS
        have hcl : cur.length = 56 := by rw [← hcur]; simp only [List.length_append, e8_len, fiveL_len, List.length_take, List.length_cons, List.length_nil]; rfl
        have HCU := Lib.hid hcur
        have HCL := Lib.hid hcl
        obtain ⟨⟨v, hv, ho⟩, hwr, _⟩ := HS.out
        have c0 := cell_of_one hv
        have f0 := free_of_one hv
        have HV := Aside0.mk hv
        have HO := Aside0.mk ho
        have hL1 : cur.length + fr.size ≤ maxLen := by unfold maxLen; omega
        have hL2 : cur.length + fr.size ≤ 140737488355328 := by omega
        have hL3 : g + 1 ≤ w2.drew.heap.size := lt_of_block HV.out
        have kx := HS.out.head (j := 6) (v := .string fr) rfl
        clear hcur hcl hv ho hwr
        go_wp2_with fail
        go_region_law
          ((refine step_append_str (by rfl) _ _ _ _ (by rfl) (g + 1) 5 i0 Tryd.underlying61 Tryd.underlying9 hi0 hz0 hz1 hz2 v cur.length (nums .u8 cur) (by rfl) (pw_own_below HO.out (below_drew (Below.refl _ _))) fr (by rfl) hL1 hL2 hL3 ?_; intro A c w3 hown hgrow; have c2 := (wr_keepB' HV.out HO.out (below_drew (Below.refl _ _)) hgrow).1; have f2 := (wr_keepB' HV.out HO.out (below_drew (Below.refl _ _)) hgrow).2))
        all_goals
          have hst := wr_store (T := 121) (by decide) HV.out HO.out (below_drew (Below.refl _ _)) (v' := .slice A (cur.length + fr.size) c) (cs := bytesOf fr) (by rw [bytesOf_length]; exact hown) hgrow
          have n_ := Aside0.mk (HS.out.step hst.1 hst.2)
          clear HS hst hown hgrow hL1 hL2 hL3 c0 f0 HV HO c2 f2 kx
          have HS := n_
          clear n_
          have kx := HS.out.head (j := 7) (v := .bool bad) rfl
          go_wp2_with fail
          refine (jtruth_calls g _ bad _ HS.out.1 (by rw [List.length_append, bytesOf_length, HCL.out]; omega)).mono ?_
          rintro e w2 ⟨rfl, ha, hb⟩
          have n_ := Aside0.mk (HS.out.step ha hb)
          clear HS ha hb
          have HS := n_
          clear n_ kx
          have hfin : cur ++ bytesOf fr ++ e8 (tru bad) = jL a0 a1 a2 a3 a4 rd fr bad := by rw [← HCU.out]; simp [jL, tx, fiveL]
          rw [hfin] at HS
          have hjl := jL_len a0 a1 a2 a3 a4 rd fr bad
          obtain ⟨bs, hbs⟩ : ∃ bs, bs = jL a0 a1 a2 a3 a4 rd fr bad := ⟨_, rfl⟩
          rw [← hbs] at HS hjl
          have HBS := Lib.hid hbs
          obtain ⟨x, hv, ho⟩ := HS.out.1
          have c0 := cell_of_one hv
          have hcv := own_string (P := Tryd.prog) Tryd.underlying61 Tryd.underlying5 Tryd.underlying9 ho
          have hz : (strOfNums bs).size = bs.length := strOfNums_size bs
          have hq := Lib.hid (seal_calls (strOfNums bs) w2 (by rw [hz]; unfold maxLen; omega))
          have HBW := Aside0.mk (H0.out.trans (HS.out.2.1.below.mono hgW))
          clear hfin hbs hv ho HS hz hjl
          go_wp2_with (go_at_call 78; refine hq.out.mono ?_; rintro e w3 ⟨rfl, hb3⟩)
          go_ret2
          exact ⟨by rw [← HBS.out] <;> rfl, below_then HBW.out HBW.out.size hb3⟩
end Go.Proofs.YtjgomlcdmpcoaaaDoor.H
namespace Go.Proofs.YtjgomlcdmpcoaaaDoor.H
open Go.RowKit Go.Proofs.YtjgomlcdmpcoaaaDoorW.PrintWords Go.Proofs.YtjgomlcdmpcoaaaDoorW.PrintLast Go.Proofs.YtjgomlcdmpcoaaaDoorW.PrintMore
open Go.Proofs.YtjgomlcdmpcoaaaDoor.D Go.Proofs.YtjgomlcdmpcoaaaDoor
set_option linter.unusedVariables false
set_option maxRecDepth 100000 in
set_option maxHeartbeats 4000000 in
theorem jobPuts_calls (a0 a1 a2 a3 a4 : Int) (rd : Bool) (fr : ByteArray) (bad : Bool) (hfr : fr.size ≤ maxLen) (w : World) (hG : GL w) :
    Calls Tryd.prog 9 #[.agg #[.int .i64 a0, .int .i64 a1, .int .i64 a2, .int .i64 a3, .int .i64 a4, .bool rd, .string fr, .bool bad]] w fun e w' => e = .returned (.bool true) ∧ Below w.heap.size w w' := by
  have H2 := Lib.hid (fun w => jput_calls a0 a1 a2 a3 a4 rd fr bad w)
  have H3 := Lib.hid (fun w => rjput_calls a0 a1 a2 a3 a4 rd fr bad w)
  have H4 := Lib.hid awake24_calls
  generalize jputS a0 a1 a2 a3 a4 rd fr bad = s at H2 H3
  generalize jputE a0 a1 a2 a3 a4 fr bad = n at H2 H3
  have HG := Aside0.mk hG
  unfold maxLen at hfr
  clear hG
  by_cases hL : 5000 < fr.size
  · have hz : decide ((5000 : Int) < (fr.size : Int)) = true := decide_eq_true (by omega)
    go_enter Tryd.func9, Tryd.ntmps9
    go_wp2_with fail
    refine (H4.out _ (HG.out.of_below (below_alloc (Below.refl _ _) _))).mono ?_
    rintro e w1 ⟨rfl, hb1⟩
    go_wp2
    go_ret
    exact ⟨rfl, below_then (below_alloc (Below.refl _ _) _) (by simp) hb1⟩
  · have hz : decide ((5000 : Int) < (fr.size : Int)) = false := decide_eq_false (by omega)
    go_enter Tryd.func9, Tryd.ntmps9
    go_wp2_with fail
    refine (H2.out _).mono ?_
    rintro e w1 ⟨rfl, hb1⟩
    have HB1 := Aside0.mk (below_then (below_alloc (Below.refl _ _) _) (by simp) hb1 : Below w.heap.size w w1)
    have hx1 := blk_below (heap_alloc_new w (.cells #[.int .i64 a0, .int .i64 a1, .int .i64 a2, .int .i64 a3, .int .i64 a4, .bool rd, .string fr, .bool bad] 23)) hb1
    have b0 := blk_cell (j := 0) (v := .int .i64 a0) hx1 rfl
    have b1 := blk_cell (j := 1) (v := .int .i64 a1) hx1 rfl
    have b2 := blk_cell (j := 2) (v := .int .i64 a2) hx1 rfl
    have b3 := blk_cell (j := 3) (v := .int .i64 a3) hx1 rfl
    have b4 := blk_cell (j := 4) (v := .int .i64 a4) hx1 rfl
    have b5 := blk_cell (j := 5) (v := .bool rd) hx1 rfl
    have b6 := blk_cell (j := 6) (v := .string fr) hx1 rfl
    have b7 := blk_cell (j := 7) (v := .bool bad) hx1 rfl
    clear hb1 hx1
    go_wp2_with fail
    refine (H3.out _).mono ?_
    rintro e w2 ⟨rfl, hb2⟩
    have HB2 := Aside0.mk (below_then HB1.out HB1.out.size hb2)
    clear hb2 b0 b1 b2 b3 b4 b5 b6 b7
    go_wp2_with (go_at_call 28; refine (num24_calls _ _).mono ?_; rintro e w' ⟨rfl, rfl⟩)
    refine (H4.out _ (HG.out.of_below HB2.out)).mono ?_
    rintro e w3 ⟨rfl, hb3⟩
    have HB3 := Aside0.mk (below_then HB2.out HB2.out.size hb3)
    clear hb3
    go_wp2
    go_ret
    exact ⟨rfl, HB3.out⟩
end Go.Proofs.YtjgomlcdmpcoaaaDoor.H
namespace Go.Proofs.YtjgomlcdmpcoaaaDoor.H
open Go.RowKit Go.Proofs.YtjgomlcdmpcoaaaDoorW.PrintWords Go.Proofs.YtjgomlcdmpcoaaaDoorW.PrintLast Go.Proofs.YtjgomlcdmpcoaaaDoorW.PrintMore
set_option linter.unusedVariables false
theorem xor_cancel {a b c : Nat} (h : a ^^^ c = b ^^^ c) : a = b := by
  have := congrArg (· ^^^ c) h
  simpa [Nat.xor_assoc] using this
theorem xor32 {a b c : Int} (ha : 0 ≤ a ∧ a < 4294967296) (hb : 0 ≤ b ∧ b < 4294967296) (hc : 0 ≤ c ∧ c < 4294967296) (h : bits .xor .u32 a c = bits .xor .u32 b c) : a = b := by
  rw [Go.u32_xor a c ha.1 ha.2 hc.1 hc.2, Go.u32_xor b c hb.1 hb.2 hc.1 hc.2] at h
  have := xor_cancel (Int.ofNat.inj h)
  omega
theorem xor32' {a b c : Int} (ha : 0 ≤ a ∧ a < 4294967296) (hb : 0 ≤ b ∧ b < 4294967296) (hc : 0 ≤ c ∧ c < 4294967296) (h : bits .xor .u32 c a = bits .xor .u32 c b) : a = b := by
  rw [Go.u32_xor c a hc.1 hc.2 ha.1 ha.2, Go.u32_xor c b hc.1 hc.2 hb.1 hb.2] at h
  have h := Int.ofNat.inj h
  rw [Nat.xor_comm _ a.toNat, Nat.xor_comm _ b.toNat] at h
  have := xor_cancel h
  omega
theorem poly_top {x y : Nat} (hx : x < 2147483648) (hy : y < 2147483648) : x ^^^ 2197175160 ≠ y := by
  intro h
  have h1 := congrArg (Nat.testBit · 31) h
  have hx' : x.testBit 31 = false := Nat.testBit_lt_two_pow (by omega)
  have hy' : y.testBit 31 = false := Nat.testBit_lt_two_pow (by omega)
  have hp : (2197175160 : Nat).testBit 31 = true := by decide +kernel
  simp only [Nat.testBit_xor, hx', hy', hp] at h1
  cases h1
theorem odd_and (n : Int) (h0 : 0 ≤ n) (h1 : n < 4294967296) : bits .and .u32 n 1 = n % 2 := by
  rw [Go.u32_and n 1 h0 h1 (by omega) (by omega)]
  rw [show (1 : Int).toNat = 1 from rfl, Go.nat_mask1]
  omega
theorem cr1_inj {a b : Int} (ha : 0 ≤ a ∧ a < 4294967296) (hb : 0 ≤ b ∧ b < 4294967296) (h : cr1 a = cr1 b) : a = b := by
  unfold cr1 at h
  rw [odd_and a ha.1 ha.2, odd_and b hb.1 hb.2] at h
  have da : 0 ≤ a / 2 ∧ a / 2 < 4294967296 := by omega
  have db : 0 ≤ b / 2 ∧ b / 2 < 4294967296 := by omega
  rcases (by omega : a % 2 = 1 ∨ a % 2 = 0) with xa | xa <;> rcases (by omega : b % 2 = 1 ∨ b % 2 = 0) with xb | xb <;> simp only [xa, xb, BEq.rfl, if_true, (by decide : ((0 : Int) == 1) = false), Bool.false_eq_true, if_false] at h
  · have := xor32 da db (by omega) h
    omega
  · rw [Go.u32_xor _ _ da.1 da.2 (by omega) (by omega), show (2197175160 : Int).toNat = 2197175160 from rfl] at h
    exact absurd (by omega) (poly_top (x := (a / 2).toNat) (y := (b / 2).toNat) (by omega) (by omega))
  · rw [Go.u32_xor _ _ db.1 db.2 (by omega) (by omega), show (2197175160 : Int).toNat = 2197175160 from rfl] at h
    exact absurd (by omega) (poly_top (x := (b / 2).toNat) (y := (a / 2).toNat) (by omega) (by omega))
  · omega
theorem crN_bd (n : Nat) : ∀ c : Int, 0 ≤ c ∧ c < 4294967296 → 0 ≤ crN n c ∧ crN n c < 4294967296 := by
  induction n with
  | zero => exact fun c h => h
  | succ n ih => exact fun c h => ih _ (cr1_bd c h.1 h.2)
theorem crN_inj (n : Nat) : ∀ a b : Int, 0 ≤ a ∧ a < 4294967296 → 0 ≤ b ∧ b < 4294967296 → crN n a = crN n b → a = b := by
  induction n with
  | zero => exact fun a b _ _ h => h
  | succ n ih => exact fun a b ha hb h => cr1_inj ha hb (ih _ _ (cr1_bd a ha.1 ha.2) (cr1_bd b hb.1 hb.2) h)
theorem crB_bd (c b : Int) : 0 ≤ crB c b ∧ crB c b < 4294967296 := crN_bd 8 _ (bits_u32 _ _ _)
theorem crB_inj {c d b : Int} (hc : 0 ≤ c ∧ c < 4294967296) (hd : 0 ≤ d ∧ d < 4294967296) (h : crB c b = crB d b) : c = d :=
  xor32 hc hd (by omega) (crN_inj 8 _ _ (bits_u32 _ _ _) (bits_u32 _ _ _) h)
theorem crB_inj' {c a b : Int} (hc : 0 ≤ c ∧ c < 4294967296) (ha : 0 ≤ a ∧ a < 256) (hb : 0 ≤ b ∧ b < 256) (h : crB c a = crB c b) : a = b := by
  have := xor32' (by omega) (by omega) hc (crN_inj 8 _ _ (bits_u32 _ _ _) (bits_u32 _ _ _) h)
  omega
theorem crL_bd : ∀ (l : List UInt8) (c : Int), 0 ≤ c ∧ c < 4294967296 → 0 ≤ crL c l ∧ crL c l < 4294967296
  | [], c, h => h
  | x :: l, c, h => crL_bd l _ (crB_bd _ _)
theorem crL_inj : ∀ (l : List UInt8) (c d : Int), 0 ≤ c ∧ c < 4294967296 → 0 ≤ d ∧ d < 4294967296 → crL c l = crL d l → c = d
  | [], c, d, _, _, h => h
  | x :: l, c, d, hc, hd, h => crB_inj hc hd (crL_inj l _ _ (crB_bd _ _) (crB_bd _ _) h)
theorem crL_append (c : Int) (l m : List UInt8) : crL c (l ++ m) = crL (crL c l) m := List.foldl_append ..
theorem crL_turned (l m : List UInt8) (a b : UInt8) (h : crL 4294967295 (l ++ a :: m) = crL 4294967295 (l ++ b :: m)) : a = b := by
  rw [crL_append, crL_append] at h
  have hl := crL_bd l 4294967295 (by omega)
  have h1 := crL_inj m _ _ (crB_bd _ _) (crB_bd _ _) h
  have := crB_inj' hl ⟨by omega, by have := a.toNat_lt; omega⟩ ⟨by omega, by have := b.toNat_lt; omega⟩ h1
  exact UInt8.toNat_inj.mp (by omega)
theorem sum_turned {s t : ByteArray} {l m : List UInt8} {a b : UInt8} (hs : s.data.toList = l ++ a :: m) (ht : t.data.toList = l ++ b :: m) (h : sumI s = sumI t) : a = b := by
  unfold sumI at h
  rw [hs, ht] at h
  exact crL_turned l m a b (xor32' (crL_bd _ _ (by omega)) (crL_bd _ _ (by omega)) (by decide) h)
end Go.Proofs.YtjgomlcdmpcoaaaDoor.H
namespace Go.Proofs.YtjgomlcdmpcoaaaDoor.H
open Go.RowKit Go.Proofs.YtjgomlcdmpcoaaaDoorW.PrintWords Go.Proofs.YtjgomlcdmpcoaaaDoorW.PrintLast Go.Proofs.YtjgomlcdmpcoaaaDoorW.PrintMore
set_option linter.unusedVariables false
def fb (c : Int) : List UInt8 := (four c).map fun n => UInt8.ofNat n.toNat
theorem u8_ofNat_inj {a b : Int} (ha : 0 ≤ a ∧ a < 256) (hb : 0 ≤ b ∧ b < 256) (h : UInt8.ofNat a.toNat = UInt8.ofNat b.toNat) : a = b := by
  have := congrArg UInt8.toNat h
  rw [UInt8.toNat_ofNat', UInt8.toNat_ofNat'] at this
  omega
theorem fb_inj {a b : Int} (ha : 0 ≤ a ∧ a < 4294967296) (hb : 0 ≤ b ∧ b < 4294967296) (h : fb a = fb b) : a = b := by
  unfold fb four at h
  simp only [List.map_cons, List.map_nil, List.cons.injEq, and_true] at h
  have h1 := u8_ofNat_inj (by omega) (by omega) h.1
  have h2 := u8_ofNat_inj (by omega) (by omega) h.2.1
  have h3 := u8_ofNat_inj (by omega) (by omega) h.2.2.1
  have h4 := u8_ofNat_inj (by omega) (by omega) h.2.2.2
  omega
theorem seal_list (p : ByteArray) : (sealB p).data.toList = p.data.toList ++ fb (sumI p) := by
  unfold sealB fb
  rw [ByteArray.data_append, Array.toList_append, strOfNums_data]
theorem fb_len (c : Int) : (fb c).length = 4 := rfl
theorem seal_size (p : ByteArray) : (sealB p).size = p.size + 4 := by
  have := congrArg List.length (seal_list p)
  rw [List.length_append, fb_len, Array.length_toList, Array.length_toList] at this
  exact this
theorem turned_list (p q : ByteArray) (k : Nat) (y : UInt8) (hk : k < p.size + 4) (hq : q.data.toList = ((sealB p).data.toList.set k y).take p.size)
    (h : (sealB q).data.toList = (sealB p).data.toList.set k y) : (sealB p).data.toList[k]? = some y := by
  have hP : p.data.toList.length = p.size := by rw [Array.length_toList]; rfl
  by_cases hkp : k < p.size
  · rw [seal_list, seal_list, List.set_append_left _ _ (by omega)] at h
    rw [seal_list, List.set_append_left _ _ (by omega), List.take_left' (by rw [List.length_set]; exact hP)] at hq
    rw [hq] at h
    have hs := fb_inj (sumI_bd q) (sumI_bd p) (List.append_cancel_left h)
    have h1 : p.data.toList = p.data.toList.take k ++ p.data.toList[k]'(by omega) :: p.data.toList.drop (k + 1) := by
      rw [← List.drop_eq_getElem_cons, List.take_append_drop]
    rw [List.set_eq_take_append_cons_drop, if_pos (by omega)] at hq
    have h2 := sum_turned h1 hq hs.symm
    rw [seal_list, List.getElem?_append_left (by omega), List.getElem?_eq_getElem (by omega), h2]
  · have h1 : q = p := by
      refine ByteArray.ext (Array.toList_inj.mp ?_)
      rw [hq, seal_list, List.set_append_right _ _ (by omega), List.take_left' hP]
    subst h1
    rw [h, List.getElem?_set_self (by have := seal_size q; rw [Array.length_toList]; exact Nat.lt_of_lt_of_eq hk this.symm)]
theorem xor_u8_ne (a d : Nat) (ha : a < 256) (hd : 0 < d) (hd' : d < 256) : a ^^^ d < 256 ∧ a ^^^ d ≠ a := by
  refine ⟨Nat.xor_lt_two_pow (n := 8) ha hd', fun h => ?_⟩
  have : d ^^^ a = 0 ^^^ a := by rw [Nat.xor_comm, h, Nat.zero_xor]
  have := xor_cancel this
  omega
def bl (s : ByteArray) : List Int := s.data.toList.map fun x => (x.toNat : Int)
theorem bl_len (s : ByteArray) : (bl s).length = s.size := by unfold bl; rw [List.length_map, Array.length_toList]; rfl
theorem bl_at (s : ByteArray) (k : Nat) (hk : k < s.size) : ∃ b : UInt8, s.data.toList[k]? = some b ∧ (bl s).getD k 0 = (b.toNat : Int) := by
  have hk' : k < s.data.toList.length := by rw [Array.length_toList]; exact hk
  refine ⟨s.data.toList[k], List.getElem?_eq_getElem hk', ?_⟩
  unfold bl
  rw [List.getD_eq_getElem?_getD, List.getElem?_map, List.getElem?_eq_getElem hk']
  rfl
def turnT (s : ByteArray) (k : Nat) (d : Int) : ByteArray := strOfNums ((bl s).set k (bits .xor .u8 ((bl s).getD k 0) d))
theorem turnT_size (s : ByteArray) (k : Nat) (d : Int) : (turnT s k d).size = s.size := by unfold turnT; rw [strOfNums_size, List.length_set, bl_len]
theorem turned (p : ByteArray) (k : Nat) (d : Int) (hk : k < p.size + 4) (hd : 1 ≤ d) (hd' : d < 256) :
    sealB ((turnT (sealB p) k d).extract 0 ((turnT (sealB p) k d).size - 4)) ≠ turnT (sealB p) k d := by
  intro h
  obtain ⟨b, hb, hb'⟩ := bl_at (sealB p) k (by rw [seal_size]; exact hk)
  have hlt := b.toNat_lt
  obtain ⟨hx, hne⟩ := xor_u8_ne b.toNat d.toNat hlt (by omega) (by omega)
  have hbx : bits .xor .u8 ((bl (sealB p)).getD k 0) d = ((b.toNat ^^^ d.toNat : Nat) : Int) := by
    rw [hb', Go.u8_xor _ _ (by omega) (by omega) (by omega) hd']
    rfl
  have hT : (turnT (sealB p) k d).data.toList = (sealB p).data.toList.set k (UInt8.ofNat (b.toNat ^^^ d.toNat)) := by
    unfold turnT
    rw [strOfNums_data, List.map_set, hbx]
    congr 1
    unfold bl
    rw [List.map_map]
    refine (List.map_congr_left (g := id) fun x _ => ?_).trans (List.map_id _)
    simp
  have hsz : (turnT (sealB p) k d).size - 4 = p.size := by rw [turnT_size, seal_size]; omega
  have hq : ((turnT (sealB p) k d).extract 0 ((turnT (sealB p) k d).size - 4)).data.toList = ((sealB p).data.toList.set k (UInt8.ofNat (b.toNat ^^^ d.toNat))).take p.size := by
    rw [hsz, ByteArray.data_extract, Array.toList_extract, hT]
    rfl
  have h1 := turned_list p _ k _ hk hq (by rw [h, hT])
  rw [hb] at h1
  have h2 := congrArg UInt8.toNat (Option.some.inj h1)
  rw [UInt8.toNat_ofNat', Nat.mod_eq_of_lt hx] at h2
  exact hne h2.symm
end Go.Proofs.YtjgomlcdmpcoaaaDoor.H
namespace Go.Proofs.YtjgomlcdmpcoaaaDoor.H
open Go.RowKit Go.Proofs.YtjgomlcdmpcoaaaDoorW.PrintWords Go.Proofs.YtjgomlcdmpcoaaaDoorW.PrintLast Go.Proofs.YtjgomlcdmpcoaaaDoorW.PrintMore
set_option linter.unusedVariables false
def beL (c : Int) (l : List Int) : Int := l.foldl (fun c b => c * 256 + b) c
def numAt (s : ByteArray) (n : Nat) : Int := wrap64 (beL 0 (((bl s).drop (n * 8)).take 8))
theorem or_byte (x b : Int) (h0 : 0 ≤ x) (h1 : x < 72057594037927936) (hb : 0 ≤ b) (hb1 : b < 256) : bits .or .u64 (x * 256) b = x * 256 + b := by
  rw [Go.u64_or (x * 256) b (by omega) (by omega) (by omega) (by omega)]
  have e : (x * 256).toNat = 2 ^ 8 * x.toNat := by omega
  rw [e, ← Nat.two_pow_add_eq_or_of_lt (by omega : b.toNat < 2 ^ 8)]
  omega
set_option maxRecDepth 100000 in
set_option maxHeartbeats 1000000 in
theorem jnumat_calls (s : ByteArray) (n : Nat) (w : World) (hs : s.size ≤ 100000) (hn : n * 8 + 8 ≤ s.size) : Calls Tryd.prog 87 #[.string s, .int .i64 n] w fun e w' => e = .returned (.int .i64 (numAt s n)) ∧ w = w' := by
  go_enter Tryd.func87, Tryd.ntmps87
  go_wp2
  go_loop [5, 7, 6] (fun u5 u7 u6 => ∃ (k : Nat) (x : Int), k ≤ 8 ∧ u7 = .int .i64 k ∧ u5 = .int .u64 x ∧ 0 ≤ x ∧ Aside0 (x < 256 ^ k) ∧ Aside0 (beL 0 (((bl s).drop (n * 8)).take 8) = beL x (((bl s).drop (n * 8 + k)).take (8 - k)))) (fun _ u7 _ => 8 - (intOf u7).toNat)
  case atStart => exact ⟨0, 0, by omega, rfl, rfl, by omega, ⟨by decide⟩, ⟨rfl⟩⟩
  case round =>
    obtain ⟨k, x, hk, rfl, rfl, hx0, HX, HC⟩ := hrel
    by_cases hlt : k < 8
    · have hlz : (k : Int) < 8 := by omega
      have hk0 : (0 : Int) ≤ (k : Int) := by omega
      have hin : n * 8 + k < s.size := by omega
      have hb := s[n * 8 + k].toNat_lt
      have hpw : (256 : Int) ^ k ≤ 256 ^ 7 := by rcases (by omega : k = 0 ∨ k = 1 ∨ k = 2 ∨ k = 3 ∨ k = 4 ∨ k = 5 ∨ k = 6 ∨ k = 7) with rfl | rfl | rfl | rfl | rfl | rfl | rfl | rfl <;> decide
      have hx1 : x < 72057594037927936 := Int.lt_of_lt_of_le HX.out hpw
      have e1 : IntKind.u64.wrap (x * 256) = x * 256 := by rw [IntKind.wrap_u64]; omega
      have e2 : IntKind.u64.wrap (s[n * 8 + k].toNat : Int) = (s[n * 8 + k].toNat : Int) := by rw [IntKind.wrap_u64]; omega
      have hd : ((bl s).drop (n * 8 + k)).take (8 - k) = (s[n * 8 + k].toNat : Int) :: ((bl s).drop (n * 8 + (k + 1))).take (8 - (k + 1)) := by
        have hl : n * 8 + k < (bl s).length := by rw [bl_len]; exact hin
        rw [List.drop_eq_getElem_cons hl, show 8 - k = (8 - (k + 1)) + 1 by omega, List.take_succ_cons]
        congr 1
        exact List.getElem_map (fun x : UInt8 => (x.toNat : Int)) (h := hl)
      rw [hd] at HC
      have HE := Lib.hid (show bits .or .u64 (IntKind.u64.wrap (x * 256)) (IntKind.u64.wrap (s[n * 8 + k].toNat : Int)) = x * 256 + (s[n * 8 + k].toNat : Int) by rw [e1, e2]; exact or_byte x _ hx0 hx1 (by omega) (by omega))
      have HB := Aside0.mk (show (s[n * 8 + k].toNat : Int) < 256 by omega)
      clear hd e1 e2 hb hpw hx1
      go_wp2
      go_round
      case rel =>
        refine ⟨k + 1, _, by omega, by go_num, rfl, ?_, ⟨?_⟩, ⟨?_⟩⟩
        · rw [HE.out]; omega
        · rw [HE.out, Int.pow_succ]; have := HX.out; have := HB.out; omega
        · rw [HE.out]; exact HC.out
      case measure => simp [intOf]; omega
    · obtain rfl : k = 8 := by omega
      have hc : beL 0 (((bl s).drop (n * 8)).take 8) = x := HC.out
      have HC2 := Lib.hid hc
      clear hc HC
      go_wp2
      go_ret
      exact ⟨by unfold numAt; rw [HC2.out] <;> rfl, rfl⟩
end Go.Proofs.YtjgomlcdmpcoaaaDoor.H
namespace Go.Proofs.YtjgomlcdmpcoaaaDoor.H
open Go.RowKit Go.Proofs.YtjgomlcdmpcoaaaDoorW.PrintWords Go.Proofs.YtjgomlcdmpcoaaaDoorW.PrintLast Go.Proofs.YtjgomlcdmpcoaaaDoorW.PrintMore
set_option linter.unusedVariables false
set_option maxRecDepth 100000 in
set_option maxHeartbeats 1000000 in
theorem sget_bad (t : ByteArray) (w : World) (hs : t.size ≤ maxLen) (h4 : 4 ≤ t.size) (hb : sealB (t.extract 0 (t.size - 4)) ≠ t) :
    Calls Tryd.prog 86 #[.string t] w fun e w' => e = .returned (.tuple #[.string ⟨#[]⟩, .int .i64 3]) ∧ Below w.heap.size w w' := by
  have hc := Lib.hid (seal_calls (t.extract 0 (t.size - 4)) w (by unfold maxLen at hs ⊢; rw [ByteArray.size_extract]; omega))
  unfold maxLen at hs
  go_enter Tryd.func86, Tryd.ntmps86
  go_wp2_with fail
  refine hc.out.mono ?_
  rintro e w' ⟨rfl, hb1⟩
  have hne : ((sealB (t.extract 0 (t.size - 4))).toList == t.toList) = false := by
    rw [beq_eq_false_iff_ne]
    intro h
    rw [ByteArray.toList_eq, ByteArray.toList_eq] at h
    exact hb (ByteArray.ext (Array.toList_inj.mp h))
  go_wp2
  go_ret2
  exact ⟨rfl, hb1⟩
end Go.Proofs.YtjgomlcdmpcoaaaDoor.H
namespace Go.Proofs.YtjgomlcdmpcoaaaDoor.H
open Go.RowKit Go.Proofs.YtjgomlcdmpcoaaaDoorW.PrintWords Go.Proofs.YtjgomlcdmpcoaaaDoorW.PrintLast Go.Proofs.YtjgomlcdmpcoaaaDoorW.PrintMore
set_option linter.unusedVariables false
set_option maxRecDepth 100000 in
set_option maxHeartbeats 1000000 in
theorem sget_ok (t : ByteArray) (w : World) (hs : t.size ≤ maxLen) (h4 : 4 ≤ t.size) (hb : sealB (t.extract 0 (t.size - 4)) = t) :
    Calls Tryd.prog 86 #[.string t] w fun e w' => e = .returned (.tuple #[.string (t.extract 0 (t.size - 4)), .int .i64 0]) ∧ Below w.heap.size w w' := by
  have hc := Lib.hid (seal_calls (t.extract 0 (t.size - 4)) w (by unfold maxLen at hs ⊢; rw [ByteArray.size_extract]; omega))
  unfold maxLen at hs
  rw [hb] at hc
  clear hb
  go_enter Tryd.func86, Tryd.ntmps86
  go_wp2_with fail
  refine hc.out.mono ?_
  rintro e w' ⟨rfl, hb1⟩
  go_wp2
  go_ret2
  exact ⟨rfl, hb1⟩
set_option maxRecDepth 100000 in
set_option maxHeartbeats 1000000 in
theorem sget_short (t : ByteArray) (w : World) (h4 : t.size < 4) :
    Calls Tryd.prog 86 #[.string t] w fun e w' => e = .returned (.tuple #[.string ⟨#[]⟩, .int .i64 3]) ∧ Below w.heap.size w w' := by
  go_enter Tryd.func86, Tryd.ntmps86
  go_wp2
  go_ret2
  exact ⟨rfl, Below.refl _ _⟩
def isSeal (t : ByteArray) : Prop := 4 ≤ t.size ∧ sealB (t.extract 0 (t.size - 4)) = t
theorem sget_calls (t : ByteArray) (w : World) (hs : t.size ≤ maxLen) :
    (isSeal t ∧ Calls Tryd.prog 86 #[.string t] w fun e w' => e = .returned (.tuple #[.string (t.extract 0 (t.size - 4)), .int .i64 0]) ∧ Below w.heap.size w w') ∨
    (¬ isSeal t ∧ Calls Tryd.prog 86 #[.string t] w fun e w' => e = .returned (.tuple #[.string ⟨#[]⟩, .int .i64 3]) ∧ Below w.heap.size w w') := by
  by_cases h4 : 4 ≤ t.size
  · by_cases hb : sealB (t.extract 0 (t.size - 4)) = t
    · exact .inl ⟨⟨h4, hb⟩, sget_ok t w hs h4 hb⟩
    · exact .inr ⟨fun h => hb h.2, sget_bad t w hs h4 hb⟩
  · exact .inr ⟨fun h => h4 h.1, sget_short t w (by omega)⟩
theorem seal_extract (p : ByteArray) : (sealB p).extract 0 ((sealB p).size - 4) = p := by
  refine ByteArray.ext (Array.toList_inj.mp ?_)
  rw [seal_size, Nat.add_sub_cancel, ByteArray.data_extract, Array.toList_extract, seal_list, List.extract_eq_take_drop]
  simp
theorem isSeal_seal (p : ByteArray) : isSeal (sealB p) := by
  refine ⟨by rw [seal_size]; omega, ?_⟩
  rw [seal_extract]
end Go.Proofs.YtjgomlcdmpcoaaaDoor.H
namespace Go.Proofs.YtjgomlcdmpcoaaaDoor.H
open Go.RowKit Go.Proofs.YtjgomlcdmpcoaaaDoorW.PrintWords Go.Proofs.YtjgomlcdmpcoaaaDoorW.PrintLast Go.Proofs.YtjgomlcdmpcoaaaDoorW.PrintMore
set_option linter.unusedVariables false
set_option linter.unusedSimpArgs false
theorem nums_ext (l1 l2 l3 : List Int) (i j : Nat) (hi : i = l1.length) (hj : j = l1.length + l2.length) : (strOfNums (l1 ++ (l2 ++ l3))).extract i j = strOfNums l2 := by
  subst hi hj
  refine ByteArray.ext (Array.toList_inj.mp ?_)
  rw [ByteArray.data_extract, Array.toList_extract, strOfNums_data, strOfNums_data, List.extract_eq_take_drop, List.map_append, List.map_append, List.drop_left' (by rw [List.length_map]), Nat.add_sub_cancel_left, List.take_left' (by rw [List.length_map])]
theorem be_e8 (n : Int) (h0 : 0 ≤ n) (h1 : n < 18446744073709551616) : beL 0 (e8 n) = n := by
  show (((((((((0 : Int) * 256 + n / 72057594037927936 % 256) * 256 + n / 281474976710656 % 256) * 256 + n / 1099511627776 % 256) * 256 + n / 4294967296 % 256) * 256 + n / 16777216 % 256) * 256 + n / 65536 % 256) * 256 + n / 256 % 256) * 256 + n % 256) = n
  have a1 : (0 : Int) * 256 + n / 72057594037927936 % 256 = n / 72057594037927936 := by omega
  have a2 : n / 72057594037927936 * 256 + n / 281474976710656 % 256 = n / 281474976710656 := by omega
  have a3 : n / 281474976710656 * 256 + n / 1099511627776 % 256 = n / 1099511627776 := by omega
  have a4 : n / 1099511627776 * 256 + n / 4294967296 % 256 = n / 4294967296 := by omega
  have a5 : n / 4294967296 * 256 + n / 16777216 % 256 = n / 16777216 := by omega
  have a6 : n / 16777216 * 256 + n / 65536 % 256 = n / 65536 := by omega
  have a7 : n / 65536 * 256 + n / 256 % 256 = n / 256 := by omega
  rw [a1, a2, a3, a4, a5, a6, a7]
  omega
theorem numAt_part (l1 l3 : List Int) (n : Int) (k : Nat) (hk : k * 8 = l1.length) (h0 : 0 ≤ n) (h1 : n < 18446744073709551616) : numAt (strOfNums (l1 ++ (e8 n ++ l3))) k = wrap64 n := by
  have e : ((bl (strOfNums (l1 ++ (e8 n ++ l3)))).drop (k * 8)).take 8 = bl (strOfNums (e8 n)) := by
    unfold bl
    rw [strOfNums_data, strOfNums_data, List.map_append, List.map_append, List.map_append, List.map_append, List.drop_left' (by rw [List.length_map, List.length_map]; omega), List.take_left' (by rw [List.length_map, List.length_map, e8_len])]
  have e2 : bl (strOfNums (e8 n)) = e8 n := bytes_back _ (e8_in n)
  unfold numAt
  rw [e, e2, be_e8 n h0 h1]
theorem un_in (a : Int) : 0 ≤ un64 a ∧ un64 a < 18446744073709551616 := by unfold un64; omega
theorem wrap_un (a : Int) (h0 : -9223372036854775808 ≤ a) (h1 : a < 9223372036854775808) : wrap64 (un64 a) = a := by unfold wrap64 un64; omega
theorem numAt_un (l1 l3 : List Int) (a : Int) (k : Nat) (hk : k * 8 = l1.length) (h0 : -9223372036854775808 ≤ a) (h1 : a < 9223372036854775808) : numAt (strOfNums (l1 ++ (e8 (un64 a) ++ l3))) k = a := by
  rw [numAt_part l1 l3 _ k hk (un_in a).1 (un_in a).2, wrap_un a h0 h1]
theorem tru_in (b : Bool) : 0 ≤ tru b ∧ tru b < 18446744073709551616 := by cases b <;> decide
theorem numAt_tru (l1 l3 : List Int) (b : Bool) (k : Nat) (hk : k * 8 = l1.length) : (numAt (strOfNums (l1 ++ (e8 (tru b) ++ l3))) k == 1) = b := by
  rw [numAt_part l1 l3 _ k hk (tru_in b).1 (tru_in b).2]
  cases b <;> (simp [tru, wrap64])
theorem strOf_bytes (s : ByteArray) : strOfNums (bytesOf s) = s := by
  refine ByteArray.ext (Array.toList_inj.mp ?_)
  rw [strOfNums_data]
  unfold bytesOf
  rw [List.map_map]
  refine (List.map_congr_left (g := id) fun x _ => ?_).trans (List.map_id _)
  simp
def bodyOf (s : ByteArray) : ByteArray := s.extract 0 (s.size - 4)
def frOf (b : ByteArray) : ByteArray := b.extract 56 (b.size - 8)
def endOf (b : ByteArray) : ByteArray := b.extract (b.size - 8) b.size
def jok (s : ByteArray) : Prop := isSeal s ∧ 64 ≤ (bodyOf s).size ∧
  jobB (numAt (bodyOf s) 0) (numAt (bodyOf s) 1) (numAt (bodyOf s) 2) (numAt (bodyOf s) 3) (numAt (bodyOf s) 4) (frOf (bodyOf s)) (numAt (endOf (bodyOf s)) 0 == 1) = true ∧
  jputS (numAt (bodyOf s) 0) (numAt (bodyOf s) 1) (numAt (bodyOf s) 2) (numAt (bodyOf s) 3) (numAt (bodyOf s) 4) (numAt (bodyOf s) 5 == 1) (frOf (bodyOf s)) (numAt (endOf (bodyOf s)) 0 == 1) = s
theorem jread (a0 a1 a2 a3 a4 : Int) (rd : Bool) (fr : ByteArray) (bad : Bool) (h : jobB a0 a1 a2 a3 a4 fr bad = true) :
    numAt (strOfNums (jL a0 a1 a2 a3 a4 rd fr bad)) 0 = a0 ∧ numAt (strOfNums (jL a0 a1 a2 a3 a4 rd fr bad)) 1 = a1 ∧ numAt (strOfNums (jL a0 a1 a2 a3 a4 rd fr bad)) 2 = a2 ∧ numAt (strOfNums (jL a0 a1 a2 a3 a4 rd fr bad)) 3 = a3 ∧ numAt (strOfNums (jL a0 a1 a2 a3 a4 rd fr bad)) 4 = a4
    ∧ (numAt (strOfNums (jL a0 a1 a2 a3 a4 rd fr bad)) 5 == 1) = rd ∧ frOf (strOfNums (jL a0 a1 a2 a3 a4 rd fr bad)) = fr ∧ (numAt (endOf (strOfNums (jL a0 a1 a2 a3 a4 rd fr bad))) 0 == 1) = bad := by
  unfold jobB at h
  simp only [Bool.and_eq_true, decide_eq_true_eq] at h
  obtain ⟨p0, p1, p2, p3, p4, p5, p6, p7, p8, p9, p10, -⟩ := h
  have hz : (strOfNums (jL a0 a1 a2 a3 a4 rd fr bad)).size = 64 + fr.size := by rw [strOfNums_size, jL_len]
  refine ⟨?_, ?_, ?_, ?_, ?_, ?_, ?_, ?_⟩
  · exact numAt_un [] _ a0 0 rfl (by omega) (by omega)
  · have := numAt_un (e8 (un64 a0)) (e8 (un64 a2) ++ (e8 (un64 a3) ++ (e8 (un64 a4) ++ (e8 (tru rd) ++ (tx fr ++ e8 (tru bad)))))) a1 1 rfl (by omega) (by omega)
    exact this
  · have := numAt_un (e8 (un64 a0) ++ e8 (un64 a1)) (e8 (un64 a3) ++ (e8 (un64 a4) ++ (e8 (tru rd) ++ (tx fr ++ e8 (tru bad))))) a2 2 rfl (by omega) (by omega)
    simpa only [jL, List.append_assoc] using this
  · have := numAt_un (e8 (un64 a0) ++ e8 (un64 a1) ++ e8 (un64 a2)) (e8 (un64 a4) ++ (e8 (tru rd) ++ (tx fr ++ e8 (tru bad)))) a3 3 rfl (by omega) (by omega)
    simpa only [jL, List.append_assoc] using this
  · have := numAt_un (e8 (un64 a0) ++ e8 (un64 a1) ++ e8 (un64 a2) ++ e8 (un64 a3)) (e8 (tru rd) ++ (tx fr ++ e8 (tru bad))) a4 4 rfl (by omega) (by omega)
    simpa only [jL, List.append_assoc] using this
  · have := numAt_tru (e8 (un64 a0) ++ e8 (un64 a1) ++ e8 (un64 a2) ++ e8 (un64 a3) ++ e8 (un64 a4)) (tx fr ++ e8 (tru bad)) rd 5 rfl
    simpa only [jL, List.append_assoc] using this
  · unfold frOf
    rw [hz]
    have := nums_ext (e8 (un64 a0) ++ e8 (un64 a1) ++ e8 (un64 a2) ++ e8 (un64 a3) ++ e8 (un64 a4) ++ e8 (tru rd) ++ e8 (un64 fr.size)) (bytesOf fr) (e8 (tru bad)) 56 (64 + fr.size - 8) rfl (by simp only [List.length_append, e8_len, bytesOf_length]; omega)
    rw [strOf_bytes] at this
    simpa only [jL, tx, List.append_assoc] using this
  · unfold endOf
    rw [hz]
    have h1 := nums_ext (e8 (un64 a0) ++ e8 (un64 a1) ++ e8 (un64 a2) ++ e8 (un64 a3) ++ e8 (un64 a4) ++ e8 (tru rd) ++ tx fr) (e8 (tru bad)) [] (64 + fr.size - 8) (64 + fr.size) (by simp only [List.length_append, e8_len, tx_len]; omega) (by simp only [List.length_append, e8_len, tx_len]; omega)
    rw [List.append_nil] at h1
    have e : strOfNums (jL a0 a1 a2 a3 a4 rd fr bad) = strOfNums (e8 (un64 a0) ++ e8 (un64 a1) ++ e8 (un64 a2) ++ e8 (un64 a3) ++ e8 (un64 a4) ++ e8 (tru rd) ++ tx fr ++ e8 (tru bad)) := by unfold jL; simp only [List.append_assoc]
    rw [e, h1]
    have := numAt_tru [] [] bad 0 rfl
    simpa only [List.nil_append, List.append_nil] using this
theorem body_seal (p : ByteArray) : bodyOf (sealB p) = p := seal_extract p
theorem jok_put (a0 a1 a2 a3 a4 : Int) (rd : Bool) (fr : ByteArray) (bad : Bool) (h : jobB a0 a1 a2 a3 a4 fr bad = true) : jok (jputS a0 a1 a2 a3 a4 rd fr bad) := by
  obtain ⟨e0, e1, e2, e3, e4, e5, e6, e7⟩ := jread a0 a1 a2 a3 a4 rd fr bad h
  have hs : jputS a0 a1 a2 a3 a4 rd fr bad = sealB (strOfNums (jL a0 a1 a2 a3 a4 rd fr bad)) := by unfold jputS; rw [h]; rfl
  have hb : bodyOf (jputS a0 a1 a2 a3 a4 rd fr bad) = strOfNums (jL a0 a1 a2 a3 a4 rd fr bad) := by rw [hs, body_seal]
  unfold jok
  rw [hb, e0, e1, e2, e3, e4, e5, e6, e7]
  refine ⟨?_, ?_, h, rfl⟩
  · rw [hs]; exact isSeal_seal _
  · rw [strOfNums_size, jL_len]; omega
end Go.Proofs.YtjgomlcdmpcoaaaDoor.H
namespace Go.Proofs.YtjgomlcdmpcoaaaDoor.H
open Go.RowKit Go.Proofs.YtjgomlcdmpcoaaaDoorW.PrintWords Go.Proofs.YtjgomlcdmpcoaaaDoorW.PrintLast Go.Proofs.YtjgomlcdmpcoaaaDoorW.PrintMore
set_option linter.unusedVariables false
def JG (s b : ByteArray) : Prop := jobB (numAt b 0) (numAt b 1) (numAt b 2) (numAt b 3) (numAt b 4) (frOf b) (numAt (endOf b) 0 == 1) = true ∧ jputS (numAt b 0) (numAt b 1) (numAt b 2) (numAt b 3) (numAt b 4) (numAt b 5 == 1) (frOf b) (numAt (endOf b) 0 == 1) = s
def jcells (b : ByteArray) : Array Value := #[.int .i64 (numAt b 0), .int .i64 (numAt b 1), .int .i64 (numAt b 2), .int .i64 (numAt b 3), .int .i64 (numAt b 4), .bool (numAt b 5 == 1), .string (frOf b), .bool (numAt (endOf b) 0 == 1)]
def jzero : Array Value := #[.int .i64 0, .int .i64 0, .int .i64 0, .int .i64 0, .int .i64 0, .bool false, .string ⟨#[]⟩, .bool false]
def JgPost (s b : ByteArray) (w : World) (e : Ending) (w' : World) : Prop := Below w.heap.size w w' ∧ ((JG s b ∧ e = .returned (.tuple #[.agg (jcells b), .int .i64 0])) ∨ (¬ JG s b ∧ e = .returned (.tuple #[.agg jzero, .int .i64 3])))
theorem box8 {w : World} {g : Nat} {t : TypeId} {z0 z1 z2 z3 z4 z5 z6 z7 : Value} (v0 v1 v2 v3 v4 v5 v6 v7 : Value) (h : w.heap[g]? = some (.cells #[z0, z1, z2, z3, z4, z5, z6, z7] t (0, 0))) : ((((((((w.setCell ⟨g, 0, none⟩ v0).setCell ⟨g, 1, none⟩ v1).setCell ⟨g, 2, none⟩ v2).setCell ⟨g, 3, none⟩ v3).setCell ⟨g, 4, none⟩ v4).setCell ⟨g, 5, none⟩ v5).setCell ⟨g, 6, none⟩ v6).setCell ⟨g, 7, none⟩ v7).heap[g]? = some (.cells #[v0, v1, v2, v3, v4, v5, v6, v7] t (0, 0)) := by
  have h0 : (w.setCell ⟨g, 0, none⟩ v0).heap[g]? = some (.cells #[v0, z1, z2, z3, z4, z5, z6, z7] t (0, 0)) := blk_put h 0 v0 rfl
  have h1 : ((w.setCell ⟨g, 0, none⟩ v0).setCell ⟨g, 1, none⟩ v1).heap[g]? = some (.cells #[v0, v1, z2, z3, z4, z5, z6, z7] t (0, 0)) := blk_put h0 1 v1 rfl
  have h2 : (((w.setCell ⟨g, 0, none⟩ v0).setCell ⟨g, 1, none⟩ v1).setCell ⟨g, 2, none⟩ v2).heap[g]? = some (.cells #[v0, v1, v2, z3, z4, z5, z6, z7] t (0, 0)) := blk_put h1 2 v2 rfl
  have h3 : ((((w.setCell ⟨g, 0, none⟩ v0).setCell ⟨g, 1, none⟩ v1).setCell ⟨g, 2, none⟩ v2).setCell ⟨g, 3, none⟩ v3).heap[g]? = some (.cells #[v0, v1, v2, v3, z4, z5, z6, z7] t (0, 0)) := blk_put h2 3 v3 rfl
  have h4 : (((((w.setCell ⟨g, 0, none⟩ v0).setCell ⟨g, 1, none⟩ v1).setCell ⟨g, 2, none⟩ v2).setCell ⟨g, 3, none⟩ v3).setCell ⟨g, 4, none⟩ v4).heap[g]? = some (.cells #[v0, v1, v2, v3, v4, z5, z6, z7] t (0, 0)) := blk_put h3 4 v4 rfl
  have h5 : ((((((w.setCell ⟨g, 0, none⟩ v0).setCell ⟨g, 1, none⟩ v1).setCell ⟨g, 2, none⟩ v2).setCell ⟨g, 3, none⟩ v3).setCell ⟨g, 4, none⟩ v4).setCell ⟨g, 5, none⟩ v5).heap[g]? = some (.cells #[v0, v1, v2, v3, v4, v5, z6, z7] t (0, 0)) := blk_put h4 5 v5 rfl
  have h6 : (((((((w.setCell ⟨g, 0, none⟩ v0).setCell ⟨g, 1, none⟩ v1).setCell ⟨g, 2, none⟩ v2).setCell ⟨g, 3, none⟩ v3).setCell ⟨g, 4, none⟩ v4).setCell ⟨g, 5, none⟩ v5).setCell ⟨g, 6, none⟩ v6).heap[g]? = some (.cells #[v0, v1, v2, v3, v4, v5, v6, z7] t (0, 0)) := blk_put h5 6 v6 rfl
  have h7 : ((((((((w.setCell ⟨g, 0, none⟩ v0).setCell ⟨g, 1, none⟩ v1).setCell ⟨g, 2, none⟩ v2).setCell ⟨g, 3, none⟩ v3).setCell ⟨g, 4, none⟩ v4).setCell ⟨g, 5, none⟩ v5).setCell ⟨g, 6, none⟩ v6).setCell ⟨g, 7, none⟩ v7).heap[g]? = some (.cells #[v0, v1, v2, v3, v4, v5, v6, v7] t (0, 0)) := blk_put h6 7 v7 rfl
  exact h7
set_option maxRecDepth 100000 in
set_option maxHeartbeats 16000000 in
theorem jget_read (s : ByteArray) (w : World) (hs : s.size ≤ 20000) (h1 : isSeal s) (h2 : 64 ≤ (bodyOf s).size) : Calls Tryd.prog 43 #[.string s] w (JgPost s (bodyOf s) w) := by
  have hc := Lib.hid (fun w => sget_ok s w (by unfold maxLen; omega) h1.1 h1.2)
  have hbz : (bodyOf s).size ≤ 20000 := by unfold bodyOf; rw [ByteArray.size_extract]; omega
  have K0 := Lib.hid (fun w => show Calls Tryd.prog 87 #[.string (bodyOf s), .int .i64 0] w fun e w' => e = .returned (.int .i64 (numAt (bodyOf s) 0)) ∧ w = w' from jnumat_calls (bodyOf s) 0 w (by omega) (by omega))
  have K1 := Lib.hid (fun w => show Calls Tryd.prog 87 #[.string (bodyOf s), .int .i64 1] w fun e w' => e = .returned (.int .i64 (numAt (bodyOf s) 1)) ∧ w = w' from jnumat_calls (bodyOf s) 1 w (by omega) (by omega))
  have K2 := Lib.hid (fun w => show Calls Tryd.prog 87 #[.string (bodyOf s), .int .i64 2] w fun e w' => e = .returned (.int .i64 (numAt (bodyOf s) 2)) ∧ w = w' from jnumat_calls (bodyOf s) 2 w (by omega) (by omega))
  have K3 := Lib.hid (fun w => show Calls Tryd.prog 87 #[.string (bodyOf s), .int .i64 3] w fun e w' => e = .returned (.int .i64 (numAt (bodyOf s) 3)) ∧ w = w' from jnumat_calls (bodyOf s) 3 w (by omega) (by omega))
  have K4 := Lib.hid (fun w => show Calls Tryd.prog 87 #[.string (bodyOf s), .int .i64 4] w fun e w' => e = .returned (.int .i64 (numAt (bodyOf s) 4)) ∧ w = w' from jnumat_calls (bodyOf s) 4 w (by omega) (by omega))
  have K5 := Lib.hid (fun w => show Calls Tryd.prog 87 #[.string (bodyOf s), .int .i64 5] w fun e w' => e = .returned (.int .i64 (numAt (bodyOf s) 5)) ∧ w = w' from jnumat_calls (bodyOf s) 5 w (by omega) (by omega))
  have hez : (endOf (bodyOf s)).size = 8 := by unfold endOf; rw [ByteArray.size_extract]; omega
  have HE := Lib.hid (fun w => show Calls Tryd.prog 87 #[.string (endOf (bodyOf s)), .int .i64 0] w fun e w' => e = .returned (.int .i64 (numAt (endOf (bodyOf s)) 0)) ∧ w = w' from jnumat_calls (endOf (bodyOf s)) 0 w (by omega) (by omega))
  change Hid (∀ w, Calls Tryd.prog 86 #[.string s] w fun e w' => e = .returned (.tuple #[.string (bodyOf s), .int .i64 0]) ∧ Below w.heap.size w w') at hc
  generalize bodyOf s = b at hc hbz K0 K1 K2 K3 K4 K5 hez HE h2 ⊢
  have hend : b.extract ((b.size : Int) - 8).toNat b.size = endOf b := by unfold endOf; congr 1; omega
  have HEN := Lib.hid hend
  clear hend
  clear h1
  obtain ⟨a0, h_⟩ : ∃ a, numAt b 0 = a := ⟨_, rfl⟩
  rw [h_] at K0
  have A0 := Lib.hid h_
  clear h_
  obtain ⟨a1, h_⟩ : ∃ a, numAt b 1 = a := ⟨_, rfl⟩
  rw [h_] at K1
  have A1 := Lib.hid h_
  clear h_
  obtain ⟨a2, h_⟩ : ∃ a, numAt b 2 = a := ⟨_, rfl⟩
  rw [h_] at K2
  have A2 := Lib.hid h_
  clear h_
  obtain ⟨a3, h_⟩ : ∃ a, numAt b 3 = a := ⟨_, rfl⟩
  rw [h_] at K3
  have A3 := Lib.hid h_
  clear h_
  obtain ⟨a4, h_⟩ : ∃ a, numAt b 4 = a := ⟨_, rfl⟩
  rw [h_] at K4
  have A4 := Lib.hid h_
  clear h_
  obtain ⟨a5, h_⟩ : ∃ a, numAt b 5 = a := ⟨_, rfl⟩
  rw [h_] at K5
  have A5 := Lib.hid h_
  clear h_
  obtain ⟨x, h_⟩ : ∃ a, numAt (endOf b) 0 = a := ⟨_, rfl⟩
  rw [h_] at HE
  have AX := Lib.hid h_
  clear h_
  have AF := Lib.hid (show b.extract 56 ((b.size : Int) - 8).toNat = frOf b by unfold frOf; congr 1; omega)
  go_enter Tryd.func43, Tryd.ntmps43
  go_wp2_with fail
  refine (hc.out _).mono ?_
  rintro e w1 ⟨rfl, hb1⟩
  have q0 : (0 : Int) ≤ 56 := by omega
  have q1 : (56 : Int) ≤ (b.size : Int) - 8 := by omega
  have q2 : (b.size : Int) - 8 ≤ (b.size : Int) := by omega
  have q3 : (0 : Int) ≤ (b.size : Int) - 8 := by omega
  have q4 : (8 : Int) ≤ (b.size : Int) := by omega
  have hb1' := hb1.size
  go_upto_region 5 with (fail)
  go_cut [7] (fun v7 wx => v7 = .pointer (some ⟨w1.heap.size, 0, none⟩) ∧ wx = (w1.alloc (.cells #[.int .i64 a0, .int .i64 a1, .int .i64 a2, .int .i64 a3, .int .i64 a4, .bool (a5 == 1), .string (b.extract 56 ((b.size : Int) - 8).toNat), .bool (x == 1)] 23)).drew)
  case first =>
    go_region_law ((go_simp; go_at_call 87; first | ((with_reducible refine (K0.out _).mono ?_); rintro e w' ⟨rfl, rfl⟩) | ((with_reducible refine (K1.out _).mono ?_); rintro e w' ⟨rfl, rfl⟩) | ((with_reducible refine (K2.out _).mono ?_); rintro e w' ⟨rfl, rfl⟩) | ((with_reducible refine (K3.out _).mono ?_); rintro e w' ⟨rfl, rfl⟩) | ((with_reducible refine (K4.out _).mono ?_); rintro e w' ⟨rfl, rfl⟩) | ((with_reducible refine (K5.out _).mono ?_); rintro e w' ⟨rfl, rfl⟩) | (rw [HEN.out]; (with_reducible refine (HE.out _).mono ?_); rintro e w' ⟨rfl, rfl⟩)))
    all_goals
      go_wp2_with fail
      go_meet
      exact ⟨rfl, rfl⟩
  case rest =>
    obtain ⟨rfl, rfl⟩ := hcut
    generalize b.extract 56 ((b.size : Int) - 8).toNat = fr at AF ⊢
    have HP := Lib.hid (fun w => jput_calls a0 a1 a2 a3 a4 (a5 == 1) fr (x == 1) w)
    have HB1 := Aside0.mk (below_then (below_alloc (Below.refl _ w) _) (by simp) hb1)
    have hx0 := blk_below (heap_alloc_new w (.cells #[.int .i64 0, .int .i64 0, .int .i64 0, .int .i64 0, .int .i64 0, .bool false, .string ⟨#[]⟩, .bool false] 23)) hb1
    have HX := Aside0.mk (blk_alloc hx0 (.cells #[.int .i64 a0, .int .i64 a1, .int .i64 a2, .int .i64 a3, .int .i64 a4, .bool (a5 == 1), .string fr, .bool (x == 1)] 23))
    have HY := Aside0.mk (heap_alloc_new w1 (.cells #[.int .i64 a0, .int .i64 a1, .int .i64 a2, .int .i64 a3, .int .i64 a4, .bool (a5 == 1), .string fr, .bool (x == 1)] 23))
    clear q0 q1 q2 q3 q4 HEN HE K0 K1 K2 K3 K4 K5 hc hx0
    have hG : JG s b ↔ (jobB a0 a1 a2 a3 a4 fr (x == 1) = true ∧ jputS a0 a1 a2 a3 a4 (a5 == 1) fr (x == 1) = s) := by unfold JG; rw [A0.out, A1.out, A2.out, A3.out, A4.out, A5.out, AX.out, AF.out]
    have HJC := Lib.hid (show jcells b = #[.int .i64 a0, .int .i64 a1, .int .i64 a2, .int .i64 a3, .int .i64 a4, .bool (a5 == 1), .string fr, .bool (x == 1)] by unfold jcells; rw [A0.out, A1.out, A2.out, A3.out, A4.out, A5.out, AX.out, AF.out])
    have hE : jputE a0 a1 a2 a3 a4 fr (x == 1) = if jobB a0 a1 a2 a3 a4 fr (x == 1) = true then 0 else 1 := rfl
    generalize jobB a0 a1 a2 a3 a4 fr (x == 1) = ok at hG hE
    rw [hE] at HP
    generalize jputS a0 a1 a2 a3 a4 (a5 == 1) fr (x == 1) = t at hG HP
    clear hE A0 A1 A2 A3 A4 A5 AX AF
    go_wp2_with fail
    refine (HP.out _).mono ?_
    rintro e w2 ⟨rfl, hb2⟩
    have hx2 := blk_below (show (w1.alloc (.cells #[.int .i64 a0, .int .i64 a1, .int .i64 a2, .int .i64 a3, .int .i64 a4, .bool (a5 == 1), .string fr, .bool (x == 1)] 23)).drew.heap[w.heap.size]? = _ from HX.out) hb2
    have hy2 := blk_below (show (w1.alloc (.cells #[.int .i64 a0, .int .i64 a1, .int .i64 a2, .int .i64 a3, .int .i64 a4, .bool (a5 == 1), .string fr, .bool (x == 1)] 23)).drew.heap[w1.heap.size]? = _ from HY.out) hb2
    have HB2 := Aside0.mk (below_then (below_drew (below_alloc HB1.out (.cells #[.int .i64 a0, .int .i64 a1, .int .i64 a2, .int .i64 a3, .int .i64 a4, .bool (a5 == 1), .string fr, .bool (x == 1)] 23))) (by have := HB1.out.size; simp; omega) hb2)
    clear HP HX HY
    cases ok with
    | false =>
      have HG2 := Lib.hid (show ¬ JG s b from fun h => by have := (hG.1 h).1; cases this)
      clear hG
      have x0 := H.blk_cell (j := 0) (v := .int .i64 0) hx2 rfl
      have f0 := blk_frozen hx2 0
      have x1 := H.blk_cell (j := 1) (v := .int .i64 0) hx2 rfl
      have f1 := blk_frozen hx2 1
      have x2 := H.blk_cell (j := 2) (v := .int .i64 0) hx2 rfl
      have f2 := blk_frozen hx2 2
      have x3 := H.blk_cell (j := 3) (v := .int .i64 0) hx2 rfl
      have f3 := blk_frozen hx2 3
      have x4 := H.blk_cell (j := 4) (v := .int .i64 0) hx2 rfl
      have f4 := blk_frozen hx2 4
      have x5 := H.blk_cell (j := 5) (v := .bool false) hx2 rfl
      have f5 := blk_frozen hx2 5
      have x6 := H.blk_cell (j := 6) (v := .string ⟨#[]⟩) hx2 rfl
      have f6 := blk_frozen hx2 6
      have x7 := H.blk_cell (j := 7) (v := .bool false) hx2 rfl
      have f7 := blk_frozen hx2 7
      have y0 := H.blk_cell (j := 0) (v := .int .i64 a0) hy2 rfl
      have y1 := H.blk_cell (j := 1) (v := .int .i64 a1) hy2 rfl
      have y2 := H.blk_cell (j := 2) (v := .int .i64 a2) hy2 rfl
      have y3 := H.blk_cell (j := 3) (v := .int .i64 a3) hy2 rfl
      have y4 := H.blk_cell (j := 4) (v := .int .i64 a4) hy2 rfl
      have y5 := H.blk_cell (j := 5) (v := .bool (a5 == 1)) hy2 rfl
      have y6 := H.blk_cell (j := 6) (v := .string fr) hy2 rfl
      have y7 := H.blk_cell (j := 7) (v := .bool (x == 1)) hy2 rfl
      go_wp2
      have hu := box8 (.int .i64 0) (.int .i64 0) (.int .i64 0) (.int .i64 0) (.int .i64 0) (.bool false) (.string ⟨#[]⟩) (.bool false) hx2
      have HB3 : Below w.heap.size w ((((((((w2.setCell ⟨w.heap.size, 0, none⟩ (.int .i64 0)).setCell ⟨w.heap.size, 1, none⟩ (.int .i64 0)).setCell ⟨w.heap.size, 2, none⟩ (.int .i64 0)).setCell ⟨w.heap.size, 3, none⟩ (.int .i64 0)).setCell ⟨w.heap.size, 4, none⟩ (.int .i64 0)).setCell ⟨w.heap.size, 5, none⟩ (.bool false)).setCell ⟨w.heap.size, 6, none⟩ (.string ⟨#[]⟩)).setCell ⟨w.heap.size, 7, none⟩ (.bool false)) := (below_set (below_set (below_set (below_set (below_set (below_set (below_set (below_set HB2.out (Nat.le_refl _)) (Nat.le_refl _)) (Nat.le_refl _)) (Nat.le_refl _)) (Nat.le_refl _)) (Nat.le_refl _)) (Nat.le_refl _)) (Nat.le_refl _))
      generalize ((((((((w2.setCell ⟨w.heap.size, 0, none⟩ (.int .i64 0)).setCell ⟨w.heap.size, 1, none⟩ (.int .i64 0)).setCell ⟨w.heap.size, 2, none⟩ (.int .i64 0)).setCell ⟨w.heap.size, 3, none⟩ (.int .i64 0)).setCell ⟨w.heap.size, 4, none⟩ (.int .i64 0)).setCell ⟨w.heap.size, 5, none⟩ (.bool false)).setCell ⟨w.heap.size, 6, none⟩ (.string ⟨#[]⟩)).setCell ⟨w.heap.size, 7, none⟩ (.bool false)) = w3 at hu HB3 ⊢
      clear x0 x1 x2 x3 x4 x5 x6 x7 f0 f1 f2 f3 f4 f5 f6 f7 y0 y1 y2 y3 y4 y5 y6 y7 hx2 hy2
      have u0 := H.blk_cell (j := 0) (v := .int .i64 0) hu rfl
      have u1 := H.blk_cell (j := 1) (v := .int .i64 0) hu rfl
      have u2 := H.blk_cell (j := 2) (v := .int .i64 0) hu rfl
      have u3 := H.blk_cell (j := 3) (v := .int .i64 0) hu rfl
      have u4 := H.blk_cell (j := 4) (v := .int .i64 0) hu rfl
      have u5 := H.blk_cell (j := 5) (v := .bool false) hu rfl
      have u6 := H.blk_cell (j := 6) (v := .string ⟨#[]⟩) hu rfl
      have u7 := H.blk_cell (j := 7) (v := .bool false) hu rfl
      exact bodyPost_ret (v := .tuple #[.agg #[.int .i64 0, .int .i64 0, .int .i64 0, .int .i64 0, .int .i64 0, .bool false, .string ⟨#[]⟩, .bool false], .int .i64 3]) (by simp [results, Tryd.results43, u0, u1, u2, u3, u4, u5, u6, u7, go_sem]) rfl ⟨HB3, .inr ⟨HG2.out, rfl⟩⟩
    | true =>
      by_cases hts : t = s
      · have HG2 := Lib.hid (hG.2 ⟨rfl, hts⟩)
        clear hG
        subst hts
        have x0 := H.blk_cell (j := 0) (v := .int .i64 0) hx2 rfl
        have f0 := blk_frozen hx2 0
        have x1 := H.blk_cell (j := 1) (v := .int .i64 0) hx2 rfl
        have f1 := blk_frozen hx2 1
        have x2 := H.blk_cell (j := 2) (v := .int .i64 0) hx2 rfl
        have f2 := blk_frozen hx2 2
        have x3 := H.blk_cell (j := 3) (v := .int .i64 0) hx2 rfl
        have f3 := blk_frozen hx2 3
        have x4 := H.blk_cell (j := 4) (v := .int .i64 0) hx2 rfl
        have f4 := blk_frozen hx2 4
        have x5 := H.blk_cell (j := 5) (v := .bool false) hx2 rfl
        have f5 := blk_frozen hx2 5
        have x6 := H.blk_cell (j := 6) (v := .string ⟨#[]⟩) hx2 rfl
        have f6 := blk_frozen hx2 6
        have x7 := H.blk_cell (j := 7) (v := .bool false) hx2 rfl
        have f7 := blk_frozen hx2 7
        have y0 := H.blk_cell (j := 0) (v := .int .i64 a0) hy2 rfl
        have y1 := H.blk_cell (j := 1) (v := .int .i64 a1) hy2 rfl
        have y2 := H.blk_cell (j := 2) (v := .int .i64 a2) hy2 rfl
        have y3 := H.blk_cell (j := 3) (v := .int .i64 a3) hy2 rfl
        have y4 := H.blk_cell (j := 4) (v := .int .i64 a4) hy2 rfl
        have y5 := H.blk_cell (j := 5) (v := .bool (a5 == 1)) hy2 rfl
        have y6 := H.blk_cell (j := 6) (v := .string fr) hy2 rfl
        have y7 := H.blk_cell (j := 7) (v := .bool (x == 1)) hy2 rfl
        go_wp2
        have hu := box8 (.int .i64 a0) (.int .i64 a1) (.int .i64 a2) (.int .i64 a3) (.int .i64 a4) (.bool (a5 == 1)) (.string fr) (.bool (x == 1)) hx2
        have HB3 : Below w.heap.size w ((((((((w2.setCell ⟨w.heap.size, 0, none⟩ (.int .i64 a0)).setCell ⟨w.heap.size, 1, none⟩ (.int .i64 a1)).setCell ⟨w.heap.size, 2, none⟩ (.int .i64 a2)).setCell ⟨w.heap.size, 3, none⟩ (.int .i64 a3)).setCell ⟨w.heap.size, 4, none⟩ (.int .i64 a4)).setCell ⟨w.heap.size, 5, none⟩ (.bool (a5 == 1))).setCell ⟨w.heap.size, 6, none⟩ (.string fr)).setCell ⟨w.heap.size, 7, none⟩ (.bool (x == 1))) := (below_set (below_set (below_set (below_set (below_set (below_set (below_set (below_set HB2.out (Nat.le_refl _)) (Nat.le_refl _)) (Nat.le_refl _)) (Nat.le_refl _)) (Nat.le_refl _)) (Nat.le_refl _)) (Nat.le_refl _)) (Nat.le_refl _))
        generalize ((((((((w2.setCell ⟨w.heap.size, 0, none⟩ (.int .i64 a0)).setCell ⟨w.heap.size, 1, none⟩ (.int .i64 a1)).setCell ⟨w.heap.size, 2, none⟩ (.int .i64 a2)).setCell ⟨w.heap.size, 3, none⟩ (.int .i64 a3)).setCell ⟨w.heap.size, 4, none⟩ (.int .i64 a4)).setCell ⟨w.heap.size, 5, none⟩ (.bool (a5 == 1))).setCell ⟨w.heap.size, 6, none⟩ (.string fr)).setCell ⟨w.heap.size, 7, none⟩ (.bool (x == 1))) = w3 at hu HB3 ⊢
        clear x0 x1 x2 x3 x4 x5 x6 x7 f0 f1 f2 f3 f4 f5 f6 f7 y0 y1 y2 y3 y4 y5 y6 y7 hx2 hy2
        have u0 := H.blk_cell (j := 0) (v := .int .i64 a0) hu rfl
        have u1 := H.blk_cell (j := 1) (v := .int .i64 a1) hu rfl
        have u2 := H.blk_cell (j := 2) (v := .int .i64 a2) hu rfl
        have u3 := H.blk_cell (j := 3) (v := .int .i64 a3) hu rfl
        have u4 := H.blk_cell (j := 4) (v := .int .i64 a4) hu rfl
        have u5 := H.blk_cell (j := 5) (v := .bool (a5 == 1)) hu rfl
        have u6 := H.blk_cell (j := 6) (v := .string fr) hu rfl
        have u7 := H.blk_cell (j := 7) (v := .bool (x == 1)) hu rfl
        exact bodyPost_ret (v := .tuple #[.agg #[.int .i64 a0, .int .i64 a1, .int .i64 a2, .int .i64 a3, .int .i64 a4, .bool (a5 == 1), .string fr, .bool (x == 1)], .int .i64 0]) (by simp [results, Tryd.results43, u0, u1, u2, u3, u4, u5, u6, u7, go_sem]) rfl ⟨HB3, .inl ⟨HG2.out, by rw [HJC.out]⟩⟩
      · have HG2 := Lib.hid (show ¬ JG s b from fun h => hts (hG.1 h).2)
        have te : (t.toList == s.toList) = false := by rw [beq_eq_false_iff_ne]; intro h; rw [ByteArray.toList_eq, ByteArray.toList_eq] at h; exact hts (ByteArray.ext (Array.toList_inj.mp h))
        clear hG hts
        have x0 := H.blk_cell (j := 0) (v := .int .i64 0) hx2 rfl
        have f0 := blk_frozen hx2 0
        have x1 := H.blk_cell (j := 1) (v := .int .i64 0) hx2 rfl
        have f1 := blk_frozen hx2 1
        have x2 := H.blk_cell (j := 2) (v := .int .i64 0) hx2 rfl
        have f2 := blk_frozen hx2 2
        have x3 := H.blk_cell (j := 3) (v := .int .i64 0) hx2 rfl
        have f3 := blk_frozen hx2 3
        have x4 := H.blk_cell (j := 4) (v := .int .i64 0) hx2 rfl
        have f4 := blk_frozen hx2 4
        have x5 := H.blk_cell (j := 5) (v := .bool false) hx2 rfl
        have f5 := blk_frozen hx2 5
        have x6 := H.blk_cell (j := 6) (v := .string ⟨#[]⟩) hx2 rfl
        have f6 := blk_frozen hx2 6
        have x7 := H.blk_cell (j := 7) (v := .bool false) hx2 rfl
        have f7 := blk_frozen hx2 7
        have y0 := H.blk_cell (j := 0) (v := .int .i64 a0) hy2 rfl
        have y1 := H.blk_cell (j := 1) (v := .int .i64 a1) hy2 rfl
        have y2 := H.blk_cell (j := 2) (v := .int .i64 a2) hy2 rfl
        have y3 := H.blk_cell (j := 3) (v := .int .i64 a3) hy2 rfl
        have y4 := H.blk_cell (j := 4) (v := .int .i64 a4) hy2 rfl
        have y5 := H.blk_cell (j := 5) (v := .bool (a5 == 1)) hy2 rfl
        have y6 := H.blk_cell (j := 6) (v := .string fr) hy2 rfl
        have y7 := H.blk_cell (j := 7) (v := .bool (x == 1)) hy2 rfl
        go_wp2
        have hu := box8 (.int .i64 0) (.int .i64 0) (.int .i64 0) (.int .i64 0) (.int .i64 0) (.bool false) (.string ⟨#[]⟩) (.bool false) hx2
        have HB3 : Below w.heap.size w ((((((((w2.setCell ⟨w.heap.size, 0, none⟩ (.int .i64 0)).setCell ⟨w.heap.size, 1, none⟩ (.int .i64 0)).setCell ⟨w.heap.size, 2, none⟩ (.int .i64 0)).setCell ⟨w.heap.size, 3, none⟩ (.int .i64 0)).setCell ⟨w.heap.size, 4, none⟩ (.int .i64 0)).setCell ⟨w.heap.size, 5, none⟩ (.bool false)).setCell ⟨w.heap.size, 6, none⟩ (.string ⟨#[]⟩)).setCell ⟨w.heap.size, 7, none⟩ (.bool false)) := (below_set (below_set (below_set (below_set (below_set (below_set (below_set (below_set HB2.out (Nat.le_refl _)) (Nat.le_refl _)) (Nat.le_refl _)) (Nat.le_refl _)) (Nat.le_refl _)) (Nat.le_refl _)) (Nat.le_refl _)) (Nat.le_refl _))
        generalize ((((((((w2.setCell ⟨w.heap.size, 0, none⟩ (.int .i64 0)).setCell ⟨w.heap.size, 1, none⟩ (.int .i64 0)).setCell ⟨w.heap.size, 2, none⟩ (.int .i64 0)).setCell ⟨w.heap.size, 3, none⟩ (.int .i64 0)).setCell ⟨w.heap.size, 4, none⟩ (.int .i64 0)).setCell ⟨w.heap.size, 5, none⟩ (.bool false)).setCell ⟨w.heap.size, 6, none⟩ (.string ⟨#[]⟩)).setCell ⟨w.heap.size, 7, none⟩ (.bool false)) = w3 at hu HB3 ⊢
        clear x0 x1 x2 x3 x4 x5 x6 x7 f0 f1 f2 f3 f4 f5 f6 f7 y0 y1 y2 y3 y4 y5 y6 y7 hx2 hy2
        have u0 := H.blk_cell (j := 0) (v := .int .i64 0) hu rfl
        have u1 := H.blk_cell (j := 1) (v := .int .i64 0) hu rfl
        have u2 := H.blk_cell (j := 2) (v := .int .i64 0) hu rfl
        have u3 := H.blk_cell (j := 3) (v := .int .i64 0) hu rfl
        have u4 := H.blk_cell (j := 4) (v := .int .i64 0) hu rfl
        have u5 := H.blk_cell (j := 5) (v := .bool false) hu rfl
        have u6 := H.blk_cell (j := 6) (v := .string ⟨#[]⟩) hu rfl
        have u7 := H.blk_cell (j := 7) (v := .bool false) hu rfl
        exact bodyPost_ret (v := .tuple #[.agg #[.int .i64 0, .int .i64 0, .int .i64 0, .int .i64 0, .int .i64 0, .bool false, .string ⟨#[]⟩, .bool false], .int .i64 3]) (by simp [results, Tryd.results43, u0, u1, u2, u3, u4, u5, u6, u7, go_sem]) rfl ⟨HB3, .inr ⟨HG2.out, rfl⟩⟩
set_option maxRecDepth 100000 in
set_option maxHeartbeats 4000000 in
theorem jget_refuse (s : ByteArray) (hs : s.size ≤ 20000) (h : ¬ isSeal s ∨ (isSeal s ∧ (bodyOf s).size < 64)) (w : World) :
    Calls Tryd.prog 43 #[.string s] w fun e w' => e = .returned (.tuple #[.agg #[.int .i64 0, .int .i64 0, .int .i64 0, .int .i64 0, .int .i64 0, .bool false, .string ⟨#[]⟩, .bool false], .int .i64 3]) ∧ Below w.heap.size w w' := by
  rcases h with h | ⟨h, h2⟩
  · have hc : ∀ w, Calls Tryd.prog 86 #[.string s] w fun e w' => e = .returned (.tuple #[.string ⟨#[]⟩, .int .i64 3]) ∧ Below w.heap.size w w' := fun w => by
      rcases sget_calls s w (by unfold maxLen; omega) with ⟨h1, _⟩ | ⟨_, h1⟩
      · exact absurd h1 h
      · exact h1
    have HC := Lib.hid hc
    clear hc h
    go_enter Tryd.func43, Tryd.ntmps43
    go_wp2_with fail
    refine (HC.out _).mono ?_
    rintro e w1 ⟨rfl, hb1⟩
    have HB1 := Aside0.mk (below_then (below_alloc (Below.refl _ w) _) (by simp) hb1)
    have hx2 := blk_below (heap_alloc_new w (.cells #[.int .i64 0, .int .i64 0, .int .i64 0, .int .i64 0, .int .i64 0, .bool false, .string ⟨#[]⟩, .bool false] 23)) hb1
    have x0 := H.blk_cell (j := 0) (v := .int .i64 0) hx2 rfl
    have f0 := blk_frozen hx2 0
    have x1 := H.blk_cell (j := 1) (v := .int .i64 0) hx2 rfl
    have f1 := blk_frozen hx2 1
    have x2 := H.blk_cell (j := 2) (v := .int .i64 0) hx2 rfl
    have f2 := blk_frozen hx2 2
    have x3 := H.blk_cell (j := 3) (v := .int .i64 0) hx2 rfl
    have f3 := blk_frozen hx2 3
    have x4 := H.blk_cell (j := 4) (v := .int .i64 0) hx2 rfl
    have f4 := blk_frozen hx2 4
    have x5 := H.blk_cell (j := 5) (v := .bool false) hx2 rfl
    have f5 := blk_frozen hx2 5
    have x6 := H.blk_cell (j := 6) (v := .string ⟨#[]⟩) hx2 rfl
    have f6 := blk_frozen hx2 6
    have x7 := H.blk_cell (j := 7) (v := .bool false) hx2 rfl
    have f7 := blk_frozen hx2 7
    go_wp2
    have hu := (blk_put (blk_put (blk_put (blk_put (blk_put (blk_put (blk_put (blk_put hx2 0 (.int .i64 0) rfl) 1 (.int .i64 0) rfl) 2 (.int .i64 0) rfl) 3 (.int .i64 0) rfl) 4 (.int .i64 0) rfl) 5 (.bool false) rfl) 6 (.string ⟨#[]⟩) rfl) 7 (.bool false) rfl)
    have HB3 : Below w.heap.size w ((((((((w1.setCell ⟨w.heap.size, 0, none⟩ (.int .i64 0)).setCell ⟨w.heap.size, 1, none⟩ (.int .i64 0)).setCell ⟨w.heap.size, 2, none⟩ (.int .i64 0)).setCell ⟨w.heap.size, 3, none⟩ (.int .i64 0)).setCell ⟨w.heap.size, 4, none⟩ (.int .i64 0)).setCell ⟨w.heap.size, 5, none⟩ (.bool false)).setCell ⟨w.heap.size, 6, none⟩ (.string ⟨#[]⟩)).setCell ⟨w.heap.size, 7, none⟩ (.bool false)) := (below_set (below_set (below_set (below_set (below_set (below_set (below_set (below_set HB1.out (Nat.le_refl _)) (Nat.le_refl _)) (Nat.le_refl _)) (Nat.le_refl _)) (Nat.le_refl _)) (Nat.le_refl _)) (Nat.le_refl _)) (Nat.le_refl _))
    generalize ((((((((w1.setCell ⟨w.heap.size, 0, none⟩ (.int .i64 0)).setCell ⟨w.heap.size, 1, none⟩ (.int .i64 0)).setCell ⟨w.heap.size, 2, none⟩ (.int .i64 0)).setCell ⟨w.heap.size, 3, none⟩ (.int .i64 0)).setCell ⟨w.heap.size, 4, none⟩ (.int .i64 0)).setCell ⟨w.heap.size, 5, none⟩ (.bool false)).setCell ⟨w.heap.size, 6, none⟩ (.string ⟨#[]⟩)).setCell ⟨w.heap.size, 7, none⟩ (.bool false)) = w3 at hu HB3 ⊢
    clear x0 x1 x2 x3 x4 x5 x6 x7 f0 f1 f2 f3 f4 f5 f6 f7 hx2
    have u0 := H.blk_cell (j := 0) (v := .int .i64 0) hu rfl
    have u1 := H.blk_cell (j := 1) (v := .int .i64 0) hu rfl
    have u2 := H.blk_cell (j := 2) (v := .int .i64 0) hu rfl
    have u3 := H.blk_cell (j := 3) (v := .int .i64 0) hu rfl
    have u4 := H.blk_cell (j := 4) (v := .int .i64 0) hu rfl
    have u5 := H.blk_cell (j := 5) (v := .bool false) hu rfl
    have u6 := H.blk_cell (j := 6) (v := .string ⟨#[]⟩) hu rfl
    have u7 := H.blk_cell (j := 7) (v := .bool false) hu rfl
    exact bodyPost_ret (v := .tuple #[.agg #[.int .i64 0, .int .i64 0, .int .i64 0, .int .i64 0, .int .i64 0, .bool false, .string ⟨#[]⟩, .bool false], .int .i64 3]) (by simp [results, Tryd.results43, u0, u1, u2, u3, u4, u5, u6, u7, go_sem]) rfl ⟨rfl, HB3⟩
  · have hc : ∀ w, Calls Tryd.prog 86 #[.string s] w fun e w' => e = .returned (.tuple #[.string (bodyOf s), .int .i64 0]) ∧ Below w.heap.size w w' := fun w => sget_ok s w (by unfold maxLen; omega) h.1 h.2
    have HC := Lib.hid hc
    have h3 : decide (((bodyOf s).size : Int) < 64) = true := decide_eq_true (by omega)
    generalize bodyOf s = b at HC h3
    clear hc h h2
    go_enter Tryd.func43, Tryd.ntmps43
    go_wp2_with fail
    refine (HC.out _).mono ?_
    rintro e w1 ⟨rfl, hb1⟩
    have HB1 := Aside0.mk (below_then (below_alloc (Below.refl _ w) _) (by simp) hb1)
    have hx2 := blk_below (heap_alloc_new w (.cells #[.int .i64 0, .int .i64 0, .int .i64 0, .int .i64 0, .int .i64 0, .bool false, .string ⟨#[]⟩, .bool false] 23)) hb1
    have x0 := H.blk_cell (j := 0) (v := .int .i64 0) hx2 rfl
    have f0 := blk_frozen hx2 0
    have x1 := H.blk_cell (j := 1) (v := .int .i64 0) hx2 rfl
    have f1 := blk_frozen hx2 1
    have x2 := H.blk_cell (j := 2) (v := .int .i64 0) hx2 rfl
    have f2 := blk_frozen hx2 2
    have x3 := H.blk_cell (j := 3) (v := .int .i64 0) hx2 rfl
    have f3 := blk_frozen hx2 3
    have x4 := H.blk_cell (j := 4) (v := .int .i64 0) hx2 rfl
    have f4 := blk_frozen hx2 4
    have x5 := H.blk_cell (j := 5) (v := .bool false) hx2 rfl
    have f5 := blk_frozen hx2 5
    have x6 := H.blk_cell (j := 6) (v := .string ⟨#[]⟩) hx2 rfl
    have f6 := blk_frozen hx2 6
    have x7 := H.blk_cell (j := 7) (v := .bool false) hx2 rfl
    have f7 := blk_frozen hx2 7
    go_wp2
    have hu := (blk_put (blk_put (blk_put (blk_put (blk_put (blk_put (blk_put (blk_put hx2 0 (.int .i64 0) rfl) 1 (.int .i64 0) rfl) 2 (.int .i64 0) rfl) 3 (.int .i64 0) rfl) 4 (.int .i64 0) rfl) 5 (.bool false) rfl) 6 (.string ⟨#[]⟩) rfl) 7 (.bool false) rfl)
    have HB3 : Below w.heap.size w ((((((((w1.setCell ⟨w.heap.size, 0, none⟩ (.int .i64 0)).setCell ⟨w.heap.size, 1, none⟩ (.int .i64 0)).setCell ⟨w.heap.size, 2, none⟩ (.int .i64 0)).setCell ⟨w.heap.size, 3, none⟩ (.int .i64 0)).setCell ⟨w.heap.size, 4, none⟩ (.int .i64 0)).setCell ⟨w.heap.size, 5, none⟩ (.bool false)).setCell ⟨w.heap.size, 6, none⟩ (.string ⟨#[]⟩)).setCell ⟨w.heap.size, 7, none⟩ (.bool false)) := (below_set (below_set (below_set (below_set (below_set (below_set (below_set (below_set HB1.out (Nat.le_refl _)) (Nat.le_refl _)) (Nat.le_refl _)) (Nat.le_refl _)) (Nat.le_refl _)) (Nat.le_refl _)) (Nat.le_refl _)) (Nat.le_refl _))
    generalize ((((((((w1.setCell ⟨w.heap.size, 0, none⟩ (.int .i64 0)).setCell ⟨w.heap.size, 1, none⟩ (.int .i64 0)).setCell ⟨w.heap.size, 2, none⟩ (.int .i64 0)).setCell ⟨w.heap.size, 3, none⟩ (.int .i64 0)).setCell ⟨w.heap.size, 4, none⟩ (.int .i64 0)).setCell ⟨w.heap.size, 5, none⟩ (.bool false)).setCell ⟨w.heap.size, 6, none⟩ (.string ⟨#[]⟩)).setCell ⟨w.heap.size, 7, none⟩ (.bool false)) = w3 at hu HB3 ⊢
    clear x0 x1 x2 x3 x4 x5 x6 x7 f0 f1 f2 f3 f4 f5 f6 f7 hx2
    have u0 := H.blk_cell (j := 0) (v := .int .i64 0) hu rfl
    have u1 := H.blk_cell (j := 1) (v := .int .i64 0) hu rfl
    have u2 := H.blk_cell (j := 2) (v := .int .i64 0) hu rfl
    have u3 := H.blk_cell (j := 3) (v := .int .i64 0) hu rfl
    have u4 := H.blk_cell (j := 4) (v := .int .i64 0) hu rfl
    have u5 := H.blk_cell (j := 5) (v := .bool false) hu rfl
    have u6 := H.blk_cell (j := 6) (v := .string ⟨#[]⟩) hu rfl
    have u7 := H.blk_cell (j := 7) (v := .bool false) hu rfl
    exact bodyPost_ret (v := .tuple #[.agg #[.int .i64 0, .int .i64 0, .int .i64 0, .int .i64 0, .int .i64 0, .bool false, .string ⟨#[]⟩, .bool false], .int .i64 3]) (by simp [results, Tryd.results43, u0, u1, u2, u3, u4, u5, u6, u7, go_sem]) rfl ⟨rfl, HB3⟩
theorem jget_ok (s : ByteArray) (hs : s.size ≤ 20000) (h : jok s) (w : World) : Calls Tryd.prog 43 #[.string s] w fun e w' => e = .returned (.tuple #[.agg (jcells (bodyOf s)), .int .i64 0]) ∧ Below w.heap.size w w' :=
  (jget_read s w hs h.1 h.2.1).mono fun e w' hp => by
    obtain ⟨hb, ⟨_, he⟩ | ⟨hn, _⟩⟩ := hp
    · exact ⟨he, hb⟩
    · exact absurd h.2.2 hn
theorem jget_no (s : ByteArray) (hs : s.size ≤ 20000) (h : ¬ jok s) (w : World) :
    Calls Tryd.prog 43 #[.string s] w fun e w' => e = .returned (.tuple #[.agg #[.int .i64 0, .int .i64 0, .int .i64 0, .int .i64 0, .int .i64 0, .bool false, .string ⟨#[]⟩, .bool false], .int .i64 3]) ∧ Below w.heap.size w w' := by
  by_cases h1 : isSeal s
  · by_cases h2 : 64 ≤ (bodyOf s).size
    · refine (jget_read s w hs h1 h2).mono fun e w' hp => ?_
      obtain ⟨hb, ⟨hg, _⟩ | ⟨_, he⟩⟩ := hp
      · exact absurd ⟨h1, h2, hg⟩ h
      · exact ⟨he, hb⟩
    · exact jget_refuse s hs (.inr ⟨h1, by omega⟩) w
  · exact jget_refuse s hs (.inl h1) w
end Go.Proofs.YtjgomlcdmpcoaaaDoor.H
namespace Go.Proofs.YtjgomlcdmpcoaaaDoor.H
open Go.RowKit Go.Proofs.YtjgomlcdmpcoaaaDoorW.PrintWords Go.Proofs.YtjgomlcdmpcoaaaDoorW.PrintLast Go.Proofs.YtjgomlcdmpcoaaaDoorW.PrintMore
open Go.Proofs.YtjgomlcdmpcoaaaDoor.D Go.Proofs.YtjgomlcdmpcoaaaDoor
set_option linter.unusedVariables false
set_option maxRecDepth 100000 in
set_option maxHeartbeats 4000000 in
theorem jobGets_calls (s : ByteArray) (hs : s.size ≤ maxLen) (w : World) (hG : GL w) :
    Calls Tryd.prog 10 #[.string s] w fun e w' => e = .returned (.bool true) ∧ Below w.heap.size w w' := by
  have H4 := Lib.hid awake24_calls
  have HG := Aside0.mk hG
  unfold maxLen at hs
  clear hG
  by_cases hL : 10000 < s.size
  · have hz : decide ((10000 : Int) < (s.size : Int)) = true := decide_eq_true (by omega)
    go_enter Tryd.func10, Tryd.ntmps10
    go_wp2_with fail
    refine (H4.out _ HG.out).mono ?_
    rintro e w1 ⟨rfl, hb1⟩
    go_wp2
    go_ret
    exact ⟨rfl, hb1⟩
  · have hz : decide ((10000 : Int) < (s.size : Int)) = false := decide_eq_false (by omega)
    by_cases hk : jok s
    · have hg := fun w => jget_ok s (by omega) hk w
      obtain ⟨-, -, hj, hp⟩ := hk
      unfold jcells at hg
      generalize numAt (bodyOf s) 0 = a0 at hg hj hp
      generalize numAt (bodyOf s) 1 = a1 at hg hj hp
      generalize numAt (bodyOf s) 2 = a2 at hg hj hp
      generalize numAt (bodyOf s) 3 = a3 at hg hj hp
      generalize numAt (bodyOf s) 4 = a4 at hg hj hp
      generalize (numAt (bodyOf s) 5 == 1) = rd at hg hp
      generalize (numAt (endOf (bodyOf s)) 0 == 1) = bad at hg hj hp
      generalize frOf (bodyOf s) = fr at hg hj hp
      have H2 := Lib.hid hg
      have H3 := Lib.hid (fun w => rjput_calls a0 a1 a2 a3 a4 rd fr bad w)
      rw [hp, show jputE a0 a1 a2 a3 a4 fr bad = 0 by unfold jputE; rw [hj]; rfl] at H3
      clear hg hj hp
      go_enter Tryd.func10, Tryd.ntmps10
      go_wp2_with fail
      refine (H2.out _).mono ?_
      rintro e w1 ⟨rfl, hb1⟩
      have HB1 := Aside0.mk hb1
      clear hb1
      go_wp2_with (go_at_call 28; refine (num24_calls _ _).mono ?_; rintro e w' ⟨rfl, rfl⟩)
      refine (H3.out _).mono ?_
      rintro e w2 ⟨rfl, hb2⟩
      have HB2 := Aside0.mk (below_then (below_alloc HB1.out _) (by have := HB1.out.size; simp; omega) hb2)
      clear hb2
      go_wp2_with fail
      refine (H4.out _ (HG.out.of_below HB2.out)).mono ?_
      rintro e w3 ⟨rfl, hb3⟩
      have HB3 := Aside0.mk (below_then HB2.out HB2.out.size hb3)
      clear hb3
      go_wp2
      go_ret
      exact ⟨rfl, HB3.out⟩
    · have H2 := Lib.hid (jget_no s (by omega) hk)
      clear hk
      go_enter Tryd.func10, Tryd.ntmps10
      go_wp2_with fail
      refine (H2.out _).mono ?_
      rintro e w1 ⟨rfl, hb1⟩
      have HB1 := Aside0.mk hb1
      clear hb1
      go_wp2_with (first | (go_at_call 28; refine (num24_calls _ _).mono ?_; rintro e w' ⟨rfl, rfl⟩) | (go_at_call 24; refine (H4.out _ (HG.out.of_below (below_alloc HB1.out _))).mono ?_; rintro e w3 ⟨rfl, hb3⟩))
      go_ret
      exact ⟨rfl, below_then (below_alloc HB1.out _) (by have := HB1.out.size; simp; omega) hb3⟩
end Go.Proofs.YtjgomlcdmpcoaaaDoor.H



namespace Go.Proofs.YtjgomlcdmpcoaaaDoor.H
open Go.RowKit Go.Proofs.YtjgomlcdmpcoaaaDoorW.PrintWords Go.Proofs.YtjgomlcdmpcoaaaDoorW.PrintLast Go.Proofs.YtjgomlcdmpcoaaaDoorW.PrintMore
open Go.Proofs.YtjgomlcdmpcoaaaDoor.D Go.Proofs.YtjgomlcdmpcoaaaDoor
set_option linter.unusedVariables false
theorem place (a : Int) (n : Nat) (h0 : 0 < n) (h1 : n ≤ 10004) : ∃ k : Nat, wrap64 ((IntKind.u64.wrap a).tmod (n : Int)) = (k : Int) ∧ k < n := by
  have hw : 0 ≤ IntKind.u64.wrap a := by simp [IntKind.wrap, IntKind.bits, IntKind.signed]; omega
  have e : (IntKind.u64.wrap a).tmod (n : Int) = (IntKind.u64.wrap a) % (n : Int) := Int.tmod_eq_emod_of_nonneg hw
  have b0 := Int.emod_nonneg (IntKind.u64.wrap a) (show (n : Int) ≠ 0 by omega)
  have b1 := Int.emod_lt_of_pos (IntKind.u64.wrap a) (show (0 : Int) < n by omega)
  rw [e]
  generalize IntKind.u64.wrap a % (n : Int) = x at b0 b1
  refine ⟨x.toNat, ?_, by omega⟩
  unfold wrap64
  omega
theorem turn_cells (w : World) (g k n : Nat) (x : Int) (l : List Int) (hl : l.length = n) (h : ∀ i, i < n → w.cell? ⟨g, i, none⟩ = some (.int .u8 (l.getD i 0))) (hk : k < n) :
    ∀ i, i < n → (w.setCell ⟨g, k, none⟩ (.int .u8 x)).cell? ⟨g, 0 + i, none⟩ = some (.int .u8 ((l.set k x).getD i 0)) := by
  intro i hi
  rw [Nat.zero_add]
  by_cases e : i = k
  · subst e
    rw [World.cell?_setCell_same' w _ _ (by rw [h i hi]; rfl), List.getD_eq_getElem?_getD, List.getElem?_set_self (by omega)]
    rfl
  · rw [World.cell?_setCell_other (h := (by intro hh; injection hh; omega : (⟨g, k, none⟩ : Addr) ≠ ⟨g, i, none⟩)), h i hi, List.getD_eq_getElem?_getD, List.getD_eq_getElem?_getD, List.getElem?_set_ne (by omega)]
theorem bytes_facts (w : World) (s : ByteArray) : w.heap.size < (Lib.bytesWorld w 5 s).heap.size ∧ (∀ i, i < s.size → (Lib.bytesWorld w 5 s).cell? ⟨w.heap.size, i, none⟩ = some (.int .u8 ((bl s).getD i 0))) ∧ (∀ i, i < s.size → (Lib.bytesWorld w 5 s).frozen? ⟨w.heap.size, i, none⟩ = false) := by
  refine ⟨by rw [Lib.bytesWorld_size]; omega, fun i hi => ?_, fun i hi => ?_⟩
  · rw [Lib.bytesWorld_cell w 5 s i hi]
    obtain ⟨b, hb, hb'⟩ := bl_at s i hi
    rw [hb', List.getD_eq_getElem?_getD, hb]
    rfl
  · have hc : s.size ≤ (Lib.bytesCells w 5 s).size := by unfold Lib.bytesCells; rw [Array.size_append, Array.size_map]; exact Nat.le_add_right _ _
    have := Lib.bytesWorld_at_new w 5 s
    simp [World.frozen?, this]
    omega
end Go.Proofs.YtjgomlcdmpcoaaaDoor.H
namespace Go.Proofs.YtjgomlcdmpcoaaaDoor.H
open Go.RowKit Go.Proofs.YtjgomlcdmpcoaaaDoorW.PrintWords Go.Proofs.YtjgomlcdmpcoaaaDoorW.PrintLast Go.Proofs.YtjgomlcdmpcoaaaDoorW.PrintMore
open Go.Proofs.YtjgomlcdmpcoaaaDoor.D Go.Proofs.YtjgomlcdmpcoaaaDoor
set_option linter.unusedVariables false
theorem nonempty_seal (p : ByteArray) : ((sealB p).toList == ([] : List UInt8)) = false := by
  rw [beq_eq_false_iff_ne, ByteArray.toList_eq]
  intro h
  have := congrArg List.length h
  rw [seal_list, List.length_append, fb_len] at this
  simp at this
set_option maxRecDepth 100000 in
set_option maxHeartbeats 8000000 in
theorem jobBack_calls (a0 a1 a2 a3 a4 : Int) (rd : Bool) (fr : ByteArray) (bad : Bool) (hfr : fr.size ≤ maxLen) (at_ with_ : Int) (hat : -9223372036854775808 ≤ at_ ∧ at_ < 9223372036854775808) (hwi : 0 ≤ with_ ∧ with_ < 256) (w : World) (hG : GL w) :
    Calls Tryd.prog 11 #[.agg #[.int .i64 a0, .int .i64 a1, .int .i64 a2, .int .i64 a3, .int .i64 a4, .bool rd, .string fr, .bool bad], .int .i64 at_, .int .u8 with_] w fun e w' => e = .returned (.bool true) ∧ Below w.heap.size w w' := by
  have H4 := Lib.hid awake24_calls
  have HG := Aside0.mk hG
  unfold maxLen at hfr
  clear hG
  by_cases hL : 5000 < fr.size
  · have hz : decide ((5000 : Int) < (fr.size : Int)) = true := decide_eq_true (by omega)
    go_enter Tryd.func11, Tryd.ntmps11
    go_wp2_with fail
    refine (H4.out _ (HG.out.of_below (below_alloc (Below.refl _ _) _))).mono ?_
    rintro e w1 ⟨rfl, hb1⟩
    go_wp2
    go_ret
    exact ⟨rfl, below_then (below_alloc (Below.refl _ _) _) (by simp) hb1⟩
  · have hz : decide ((5000 : Int) < (fr.size : Int)) = false := decide_eq_false (by omega)
    have H2 := Lib.hid (fun w => jput_calls a0 a1 a2 a3 a4 rd fr bad w)
    have HM := Lib.hid (fun w => jmay_calls a0 a1 a2 a3 a4 rd fr bad w)
    cases hj : jobB a0 a1 a2 a3 a4 fr bad with
    | false =>
      rw [show jputS a0 a1 a2 a3 a4 rd fr bad = ⟨#[]⟩ by unfold jputS; rw [hj]; rfl, show jputE a0 a1 a2 a3 a4 fr bad = 1 by unfold jputE; rw [hj]; rfl] at H2
      rw [hj] at HM
      clear hj
      go_enter Tryd.func11, Tryd.ntmps11
      go_wp2_with fail
      refine (H2.out _).mono ?_
      rintro e w1 ⟨rfl, hb1⟩
      have HB1 := Aside0.mk (below_then (below_alloc (Below.refl _ _) _) (by simp) hb1 : Below w.heap.size w w1)
      have hx1 := blk_below (heap_alloc_new w (.cells #[.int .i64 a0, .int .i64 a1, .int .i64 a2, .int .i64 a3, .int .i64 a4, .bool rd, .string fr, .bool bad] 23)) hb1
      have b0 := H.blk_cell (j := 0) (v := .int .i64 a0) hx1 rfl
      have b1 := H.blk_cell (j := 1) (v := .int .i64 a1) hx1 rfl
      have b2 := H.blk_cell (j := 2) (v := .int .i64 a2) hx1 rfl
      have b3 := H.blk_cell (j := 3) (v := .int .i64 a3) hx1 rfl
      have b4 := H.blk_cell (j := 4) (v := .int .i64 a4) hx1 rfl
      have b5 := H.blk_cell (j := 5) (v := .bool rd) hx1 rfl
      have b6 := H.blk_cell (j := 6) (v := .string fr) hx1 rfl
      have b7 := H.blk_cell (j := 7) (v := .bool bad) hx1 rfl
      clear hb1 hx1
      go_wp2_with (go_at_call 28; refine (num24_calls _ _).mono ?_; rintro e w' ⟨rfl, rfl⟩)
      refine (HM.out _).mono ?_
      rintro e w2 ⟨rfl, hb2⟩
      have HB2 := Aside0.mk (below_then HB1.out HB1.out.size hb2)
      clear hb2 b0 b1 b2 b3 b4 b5 b6 b7
      go_wp2_with fail
      refine (H4.out _ (HG.out.of_below HB2.out)).mono ?_
      rintro e w3 ⟨rfl, hb3⟩
      have HB3 := Aside0.mk (below_then HB2.out HB2.out.size hb3)
      clear hb3
      go_wp2
      go_ret
      exact ⟨rfl, HB3.out⟩
    | true =>
      obtain ⟨e0, e1, e2, e3, e4, e5, e6, e7⟩ := jread a0 a1 a2 a3 a4 rd fr bad hj
      have hfr2 := jobB_fr hj
      have hps : (strOfNums (jL a0 a1 a2 a3 a4 rd fr bad)).size ≤ 2000 := by rw [strOfNums_size, jL_len]; omega
      have hk := jok_put a0 a1 a2 a3 a4 rd fr bad hj
      rw [show jputS a0 a1 a2 a3 a4 rd fr bad = sealB (strOfNums (jL a0 a1 a2 a3 a4 rd fr bad)) by unfold jputS; rw [hj]; rfl] at H2 hk
      rw [show jputE a0 a1 a2 a3 a4 fr bad = 0 by unfold jputE; rw [hj]; rfl] at H2
      have hjc : jcells (bodyOf (sealB (strOfNums (jL a0 a1 a2 a3 a4 rd fr bad)))) = #[.int .i64 a0, .int .i64 a1, .int .i64 a2, .int .i64 a3, .int .i64 a4, .bool rd, .string fr, .bool bad] := by unfold jcells; rw [body_seal, e0, e1, e2, e3, e4, e5, e6, e7]
      generalize strOfNums (jL a0 a1 a2 a3 a4 rd fr bad) = p at H2 hk hjc hps
      have HT := Lib.hid (fun k d => turned p k d)
      have hsz := seal_size p
      have hne := nonempty_seal p
      have HK := Lib.hid (fun w => jget_ok (sealB p) (by omega) hk w)
      rw [hjc] at HK
      clear e0 e1 e2 e3 e4 e5 e6 e7 hj hk hjc HM
      obtain ⟨s, hs⟩ : ∃ s, sealB p = s := ⟨_, rfl⟩
      rw [hs] at H2 HT hsz HK hne
      have hemp : s.toList.isEmpty = false := by cases h : s.toList with
        | nil => rw [h] at hne; cases hne
        | cons _ _ => rfl
      clear hs
      go_enter Tryd.func11, Tryd.ntmps11
      go_wp2_with fail
      refine (H2.out _).mono ?_
      rintro e w1 ⟨rfl, hb1⟩
      have HB1 := Aside0.mk (below_then (below_alloc (Below.refl _ _) _) (by simp) hb1 : Below w.heap.size w w1)
      have HX1 := Aside0.mk (blk_below (heap_alloc_new w (.cells #[.int .i64 a0, .int .i64 a1, .int .i64 a2, .int .i64 a3, .int .i64 a4, .bool rd, .string fr, .bool bad] 23)) hb1)
      clear hb1
      go_wp2_with (go_at_call 28; refine (num24_calls _ _).mono ?_; rintro e w' ⟨rfl, rfl⟩)
      refine (HK.out _).mono ?_
      rintro e w2 ⟨rfl, hb2⟩
      have HB2 := Aside0.mk (below_then HB1.out HB1.out.size hb2)
      have HX2 := Aside0.mk (blk_alloc (blk_below HX1.out hb2) (.cells #[.int .i64 a0, .int .i64 a1, .int .i64 a2, .int .i64 a3, .int .i64 a4, .bool rd, .string fr, .bool bad] 23))
      have HY2 := Aside0.mk (heap_alloc_new w2 (.cells #[.int .i64 a0, .int .i64 a1, .int .i64 a2, .int .i64 a3, .int .i64 a4, .bool rd, .string fr, .bool bad] 23))
      have hw12 : w.heap.size < w1.heap.size := lt_of_block HX1.out
      have hw2 : w.heap.size < w2.heap.size := by have := hb2.size; omega
      have hz2 : (w2.alloc (.cells #[.int .i64 a0, .int .i64 a1, .int .i64 a2, .int .i64 a3, .int .i64 a4, .bool rd, .string fr, .bool bad] 23)).heap.size = w2.heap.size + 1 := by simp
      have hm : s.size ≤ 10004 := by omega
      have hz0 : ¬ s.size = 0 := by omega
      have HZ := Aside0.mk hsz
      clear hb2 hsz hw12
      have hcv := Lib.run_convert_string_bytes (P := Tryd.prog) (w2.alloc (.cells #[.int .i64 a0, .int .i64 a1, .int .i64 a2, .int .i64 a3, .int .i64 a4, .bool rd, .string fr, .bool bad] 23)) 9 61 5 s Tryd.underlying9 Tryd.underlying61 Tryd.underlying5
      have hBb := bytes_below (below_alloc HB2.out (.cells #[.int .i64 a0, .int .i64 a1, .int .i64 a2, .int .i64 a3, .int .i64 a4, .bool rd, .string fr, .bool bad] 23)) (by rw [hz2]; omega) 5 s
      have hBw := bytes_below (Below.refl (w2.alloc (.cells #[.int .i64 a0, .int .i64 a1, .int .i64 a2, .int .i64 a3, .int .i64 a4, .bool rd, .string fr, .bool bad] 23)).heap.size (w2.alloc (.cells #[.int .i64 a0, .int .i64 a1, .int .i64 a2, .int .i64 a3, .int .i64 a4, .bool rd, .string fr, .bool bad] 23))) (Nat.le_refl _) 5 s
      obtain ⟨gc, hgc⟩ : ∃ gc, grownCap (w2.alloc (.cells #[.int .i64 a0, .int .i64 a1, .int .i64 a2, .int .i64 a3, .int .i64 a4, .bool rd, .string fr, .bool bad] 23)) s.size 0 5 = gc := ⟨_, rfl⟩
      obtain ⟨f0, f1, f2⟩ := bytes_facts (w2.alloc (.cells #[.int .i64 a0, .int .i64 a1, .int .i64 a2, .int .i64 a3, .int .i64 a4, .bool rd, .string fr, .bool bad] 23)) s
      have hx3 := blk_below HX2.out hBw
      have hy3 := blk_below HY2.out hBw
      rw [hz2] at f0 f1 f2 hcv
      rw [hgc] at hcv
      obtain ⟨wb, hwb⟩ : ∃ wb, Lib.bytesWorld (w2.alloc (.cells #[.int .i64 a0, .int .i64 a1, .int .i64 a2, .int .i64 a3, .int .i64 a4, .bool rd, .string fr, .bool bad] 23)) 5 s = wb := ⟨_, rfl⟩
      rw [hwb] at f0 f1 f2 hcv hBb hx3 hy3
      clear hwb hgc hBw hz2
      have HB4 := Aside0.mk hBb
      have HX3 := Aside0.mk hx3
      have HY3 := Aside0.mk hy3
      obtain ⟨k, hk, hks⟩ := place at_ s.size (by omega) (by omega)
      have c1 := f1 k hks
      have c2 := f2 k hks
      have F1 := Aside0.mk f1
      clear f1 f2 hBb hx3 hy3
      have hd : 1 ≤ 1 + with_ % 255 ∧ 1 + with_ % 255 < 256 := by omega
      obtain ⟨x, hx⟩ : ∃ x, bits .xor .u8 ((bl s)[k]?.getD 0) (1 + with_ % 255) = x := ⟨_, rfl⟩
      have hcs := run_convert_bytes_arg (P := Tryd.prog) (wb.setCell ⟨w2.heap.size + 1, k, none⟩ (.int .u8 x)) 61 5 Tryd.underlying61 Tryd.underlying5 (w2.heap.size + 1) 0 s.size gc ((bl s).set k x) (by rw [List.length_set, bl_len])
        (turn_cells wb (w2.heap.size + 1) k s.size x (bl s) (bl_len s) F1.out hks) 9 Tryd.underlying9
      have hT : strOfNums ((bl s).set k x) = turnT s k (1 + with_ % 255) := by unfold turnT; rw [List.getD_eq_getElem?_getD, hx]
      rw [hT] at hcs
      have hTs := turnT_size s k (1 + with_ % 255)
      have HD := Lib.hid (fun W => jget_refuse (turnT s k (1 + with_ % 255)) (by rw [hTs]; omega) (.inl fun h => HT.out k _ (by have := HZ.out; omega) hd.1 hd.2 h.2) W)
      obtain ⟨t, ht⟩ : ∃ t, turnT s k (1 + with_ % 255) = t := ⟨_, rfl⟩
      rw [ht] at HD hcs
      have HB5 := Aside0.mk (below_set HB4.out (by show w.heap.size ≤ w2.heap.size + 1; omega) : Below w.heap.size w (wb.setCell ⟨w2.heap.size + 1, k, none⟩ (.int .u8 x)))
      have HX5 := Aside0.mk (blk_far HX3.out (p := ⟨w2.heap.size + 1, k, none⟩) (by simp; omega) (.int .u8 x))
      have HY5 := Aside0.mk (blk_far HY3.out (p := ⟨w2.heap.size + 1, k, none⟩) (by simp) (.int .u8 x))
      clear hT hTs ht hd HT F1 HZ
      go_wp2_with fail
      refine (HD.out _).mono ?_
      rintro e w5 ⟨rfl, hb5⟩
      have HB6 := Aside0.mk (below_then HB5.out HB5.out.size hb5)
      have hx6 := blk_below HX5.out hb5
      have hy6 := blk_below HY5.out hb5
      have hl6 := lt_of_block hx6
      have hm6 := lt_of_block hy6
      have b0 := H.blk_cell (j := 0) (v := .int .i64 a0) hx6 rfl
      have b1 := H.blk_cell (j := 1) (v := .int .i64 a1) hx6 rfl
      have b2 := H.blk_cell (j := 2) (v := .int .i64 a2) hx6 rfl
      have b3 := H.blk_cell (j := 3) (v := .int .i64 a3) hx6 rfl
      have b4 := H.blk_cell (j := 4) (v := .int .i64 a4) hx6 rfl
      have b5 := H.blk_cell (j := 5) (v := .bool rd) hx6 rfl
      have b6 := H.blk_cell (j := 6) (v := .string fr) hx6 rfl
      have b7 := H.blk_cell (j := 7) (v := .bool bad) hx6 rfl
      have y0 := H.blk_cell (j := 0) (v := .int .i64 a0) hy6 rfl
      have y1 := H.blk_cell (j := 1) (v := .int .i64 a1) hy6 rfl
      have y2 := H.blk_cell (j := 2) (v := .int .i64 a2) hy6 rfl
      have y3 := H.blk_cell (j := 3) (v := .int .i64 a3) hy6 rfl
      have y4 := H.blk_cell (j := 4) (v := .int .i64 a4) hy6 rfl
      have y5 := H.blk_cell (j := 5) (v := .bool rd) hy6 rfl
      have y6 := H.blk_cell (j := 6) (v := .string fr) hy6 rfl
      have y7 := H.blk_cell (j := 7) (v := .bool bad) hy6 rfl
      clear hb5 hx6 hy6 hcv hcs c1 c2
      go_wp2_with (go_at_call 28; refine (num24_calls _ _).mono ?_; rintro e w' ⟨rfl, rfl⟩)
      refine (H4.out _ (HG.out.of_below (below_alloc HB6.out _))).mono ?_
      rintro e w6 ⟨rfl, hb6⟩
      have HB7 := Aside0.mk (below_then (below_alloc HB6.out _) (by have := HB6.out.size; simp; omega) hb6)
      clear hb6
      go_wp2
      go_ret
      exact ⟨rfl, HB7.out⟩
end Go.Proofs.YtjgomlcdmpcoaaaDoor.H
