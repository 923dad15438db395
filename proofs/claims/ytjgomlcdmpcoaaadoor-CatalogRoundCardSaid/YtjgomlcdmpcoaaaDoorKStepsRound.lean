/- Own texts of this session, on the packs of KSteps. -/
import Derived.Test.YtjgomlcdmpcoaaaDoorKSteps0
import Derived.Test.YtjgomlcdmpcoaaaDoorKSteps1
import Derived.Test.YtjgomlcdmpcoaaaDoorKSteps2
import Derived.Test.YtjgomlcdmpcoaaaDoorKSteps3
import Derived.Test.YtjgomlcdmpcoaaaDoorKSteps4
import Derived.Test.YtjgomlcdmpcoaaaDoorKSteps5
import Derived.Test.YtjgomlcdmpcoaaaDoorKSteps6
import Derived.Test.YtjgomlcdmpcoaaaDoorKSteps7
import Derived.Test.YtjgomlcdmpcoaaaDoorKSteps8
import Derived.Test.YtjgomlcdmpcoaaaDoorKSteps9
import Derived.Test.YtjgomlcdmpcoaaaDoorKSteps10
import Derived.Test.YtjgomlcdmpcoaaaDoorKSteps11
import Derived.Test.YtjgomlcdmpcoaaaDoorKSteps12
import Derived.ChangeOld
import Derived.Carry
import Derived.Lib.SmallJoins
namespace Go.Proofs.YtjgomlcdmpcoaaaDoor.H
open Go.RowKit Go.Proofs.YtjgomlcdmpcoaaaDoorW.PrintWords Go.Proofs.YtjgomlcdmpcoaaaDoorW.PrintLast Go.Proofs.YtjgomlcdmpcoaaaDoorW.PrintMore
open Go.Proofs.YtjgomlcdmpcoaaaDoor.D Go.Proofs.YtjgomlcdmpcoaaaDoor
set_option linter.unusedVariables false
set_option linter.unusedSimpArgs false
theorem idxL_set {α : Type} (p : α → Bool) (y : α) : ∀ (l : List α) (k i : Nat), (∀ h : k < l.length, p y = p l[k]) → idxL p (l.set k y) i = idxL p l i
  | [], k, i, _ => rfl
  | x :: l, 0, i, h => by
    have := h (by simp)
    simp only [List.getElem_cons_zero] at this
    rw [List.set_cons_zero, idxL_cons, idxL_cons, this]
  | x :: l, k + 1, i, h => by
    rw [List.set_cons_succ, idxL_cons, idxL_cons, idxL_set p y l k (i + 1) (fun hk => by have := h (by simpa using hk); simpa using this)]
theorem any_set {α : Type} (p : α → Bool) (y : α) : ∀ (l : List α) (k : Nat), (∀ h : k < l.length, p y = p l[k]) → (l.set k y).any p = l.any p
  | [], k, _ => rfl
  | x :: l, 0, h => by
    have := h (by simp)
    simp only [List.getElem_cons_zero] at this
    rw [List.set_cons_zero, List.any_cons, List.any_cons, this]
  | x :: l, k + 1, h => by
    rw [List.set_cons_succ, List.any_cons, List.any_cons, any_set p y l k (fun hk => by have := h (by simpa using hk); simpa using this)]
theorem map_set_eq {α β : Type} (f : α → β) (y : α) : ∀ (l : List α) (k : Nat), (∀ h : k < l.length, f y = f l[k]) → (l.set k y).map f = l.map f
  | [], k, _ => rfl
  | x :: l, 0, h => by
    have := h (by simp)
    simp only [List.getElem_cons_zero] at this
    rw [List.set_cons_zero, List.map_cons, List.map_cons, this]
  | x :: l, k + 1, h => by
    rw [List.set_cons_succ, List.map_cons, List.map_cons, map_set_eq f y l k (fun hk => by have := h (by simpa using hk); simpa using this)]
theorem tcolsB_set (next : Int) (y : S75) : ∀ (l : List S75) (k : Nat) (ids : List Int) (ns : List (List UInt8)), (∀ h : k < l.length, y.f0 = l[k].f0 ∧ y.f1 = l[k].f1 ∧ (columnB l[k] = true → columnB y = true)) → tcolsB next ids ns l = true → tcolsB next ids ns (l.set k y) = true
  | [], k, ids, ns, _, h => h
  | x :: l, 0, ids, ns, hy, h => by
    obtain ⟨h0, h1, h2⟩ := hy (by simp)
    simp only [List.getElem_cons_zero] at h0 h1 h2
    unfold tcolsB at h
    simp only [Bool.and_eq_true] at h
    rw [List.set_cons_zero]
    unfold tcolsB
    rw [h0, h1, h.1, h.2.1, h2 h.2.2.1, h.2.2.2]
    rfl
  | x :: l, k + 1, ids, ns, hy, h => by
    unfold tcolsB at h
    simp only [Bool.and_eq_true] at h
    rw [List.set_cons_succ]
    unfold tcolsB
    rw [h.1, h.2.1, h.2.2.1, tcolsB_set next y l k _ _ (fun hk => by have := hy (by simpa using hk); simpa using this) h.2.2.2]
    rfl
theorem tindsB_set (t : S70) (y : S98) : ∀ (l : List S98) (k : Nat) (ids : List Int) (ns : List (List UInt8)), (∀ h : k < l.length, y.f0 = l[k].f0 ∧ y.f1 = l[k].f1 ∧ (indexB t l[k] = true → indexB t y = true)) → tindsB t ids ns l = true → tindsB t ids ns (l.set k y) = true
  | [], k, ids, ns, _, h => h
  | x :: l, 0, ids, ns, hy, h => by
    obtain ⟨h0, h1, h2⟩ := hy (by simp)
    simp only [List.getElem_cons_zero] at h0 h1 h2
    unfold tindsB at h
    simp only [Bool.and_eq_true] at h
    rw [List.set_cons_zero]
    unfold tindsB
    rw [h0, h1, h.1, h.2.1, h2 h.2.2.1, h.2.2.2]
    rfl
  | x :: l, k + 1, ids, ns, hy, h => by
    unfold tindsB at h
    simp only [Bool.and_eq_true] at h
    rw [List.set_cons_succ]
    unfold tindsB
    rw [h.1, h.2.1, h.2.2.1, tindsB_set t y l k _ _ (fun hk => by have := hy (by simpa using hk); simpa using this) h.2.2.2]
    rfl
theorem colsB_cong {c1 c2 : List S75} (h : ∀ id, c1.any (fun c => c.f0 == id) = c2.any (fun c => c.f0 == id)) : ∀ (l pre : List Int), colsB c1 pre l = colsB c2 pre l
  | [], _ => rfl
  | x :: l, pre => by
    unfold colsB
    rw [h x, colsB_cong h l]
theorem tindsB_cong {t u : S70} (h4 : t.f4 = u.f4) (h : ∀ id, t.f2.any (fun c => c.f0 == id) = u.f2.any (fun c => c.f0 == id)) : ∀ (l : List S98) (ids : List Int) (ns : List (List UInt8)), tindsB t ids ns l = tindsB u ids ns l
  | [], _, _ => rfl
  | x :: l, ids, ns => by
    unfold tindsB indexB
    rw [h4, colsB_cong h, tindsB_cong h4 h l]
theorem tabsB_set (nx : Int) (y : S70) : ∀ (l : List S70) (k : Nat) (last : Int) (ns : List (List UInt8)), (∀ h : k < l.length, y.f0 = l[k].f0 ∧ y.f1 = l[k].f1 ∧ (tableB l[k] = true → tableB y = true)) → tabsB nx last ns l = true → tabsB nx last ns (l.set k y) = true
  | [], k, _, ns, _, h => h
  | x :: l, 0, last, ns, hy, h => by
    obtain ⟨h0, h1, h2⟩ := hy (by simp)
    simp only [List.getElem_cons_zero] at h0 h1 h2
    unfold tabsB at h
    simp only [Bool.and_eq_true] at h
    rw [List.set_cons_zero]
    unfold tabsB
    rw [h0, h1, h.1, h.2.1, h.2.2.1, h2 h.2.2.2.1, h.2.2.2.2]
    rfl
  | x :: l, k + 1, last, ns, hy, h => by
    unfold tabsB at h
    simp only [Bool.and_eq_true] at h
    rw [List.set_cons_succ]
    unfold tabsB
    rw [h.1, h.2.1, h.2.2.1, h.2.2.2.1, tabsB_set nx y l k _ _ (fun hk => by have := hy (by simpa using hk); simpa using this) h.2.2.2.2]
    rfl
theorem stateB_iff (n : Int) : stateB n = true ↔ 0 ≤ n ∧ n ≤ 4 := by unfold stateB; simp
/-- An index's state turned: the table may be, still. -/
theorem tableB_turnI {t : S70} (k : Nat) (hk : k < t.f3.length) (st : Int) (hs : 0 < st ∧ st ≤ 4) (h : tableB t = true) : tableB (turnI t k st) = true := by
  unfold turnI
  rw [if_neg (by omega)]
  unfold tableB at h ⊢
  simp only [Bool.and_eq_true, decide_eq_true_eq, List.length_set] at h ⊢
  obtain ⟨h1, h2, h3, h4, h5, h6, h7, h8, h9⟩ := h
  refine ⟨h1, h2, h3, h4, h5, h6, h7, ?_, h9⟩
  have hc := fun (y : S98) (l : List S98) (ids : List Int) (ns : List (List UInt8)) => tindsB_cong (t := ⟨t.f0, t.f1, t.f2, t.f3.set k y, t.f4⟩) (u := t) rfl (fun _ => rfl) l ids ns
  rw [hc]
  refine tindsB_set t _ _ _ _ _ (fun h => ?_) h8
  have e : rd_T98 t.f3 (k : Int) = t.f3[k] := by unfold rd_T98; rw [Int.toNat_natCast, List.getD_eq_getElem?_getD, List.getElem?_eq_getElem h]; rfl
  rw [e]
  refine ⟨rfl, rfl, fun hi => ?_⟩
  unfold indexB at hi ⊢
  simp only [Bool.and_eq_true] at hi ⊢
  exact ⟨hi.1, hi.2.1, hi.2.2.1, (stateB_iff _).2 ⟨by omega, by omega⟩, hi.2.2.2.2⟩
theorem tableB_setC {t : S70} (k : Nat) (hk : 0 < k) (y : S75) (hy : ∀ h : k < t.f2.length, y.f0 = t.f2[k].f0 ∧ y.f1 = t.f2[k].f1 ∧ (columnB t.f2[k] = true → columnB y = true)) (h : tableB t = true) : tableB ⟨t.f0, t.f1, t.f2.set k y, t.f3, t.f4⟩ = true := by
  unfold tableB at h ⊢
  simp only [Bool.and_eq_true, decide_eq_true_eq, List.length_set] at h ⊢
  obtain ⟨h1, h2, h3, h4, h5, h6, h7, h8, h9⟩ := h
  refine ⟨h1, h2, h3, h4, h5, h6, tcolsB_set _ y _ _ _ _ hy h7, ?_, ?_⟩
  · refine (tindsB_cong (t := ⟨t.f0, t.f1, t.f2.set k y, t.f3, t.f4⟩) (u := t) rfl (fun id => any_set (fun c : S75 => c.f0 == id) y t.f2 k (fun h => by show (y.f0 == id) = (t.f2[k].f0 == id); rw [(hy h).1])) _ _ _).trans ?_
    rw [map_set_eq (fun c : S75 => c.f0) y _ _ (fun h => (hy h).1)]
    exact h8
  · unfold keyB at h9 ⊢
    obtain ⟨k, rfl⟩ : ∃ j, k = j + 1 := ⟨k - 1, by omega⟩
    cases hf : t.f2 with
    | nil => rw [hf] at h9; exact h9
    | cons x l => rw [hf] at h9; simpa using h9
theorem rd75_at {l : List S75} {k : Nat} (h : k < l.length) : rd_T75 l (k : Int) = l[k] := by unfold rd_T75; rw [Int.toNat_natCast, List.getD_eq_getElem?_getD, List.getElem?_eq_getElem h]; rfl
theorem rd98_at {l : List S98} {k : Nat} (h : k < l.length) : rd_T98 l (k : Int) = l[k] := by unfold rd_T98; rw [Int.toNat_natCast, List.getD_eq_getElem?_getD, List.getElem?_eq_getElem h]; rfl
theorem rd70_at {l : List S70} {k : Nat} (h : k < l.length) : rd_T70 l (k : Int) = l[k] := by unfold rd_T70; rw [Int.toNat_natCast, List.getD_eq_getElem?_getD, List.getElem?_eq_getElem h]; rfl
theorem turnP_I {t : S70} {kind elem b : Int} {j : Nat} (k6 : kind = 6 ∨ kind = 7) (hj : j < t.f3.length) (hx : idxL (xId elem) t.f3 0 = (j : Int)) (hs : t.f3[j].f4 + b ≠ 0) :
    turnP t kind elem b = ⟨t.f0, t.f1, t.f2, t.f3.set j ⟨t.f3[j].f0, t.f3[j].f1, t.f3[j].f2, t.f3[j].f3, t.f3[j].f4 + b⟩, t.f4⟩ := by
  have he : elemI t kind elem = t.f3[j].f4 := by unfold elemI; rw [if_pos k6, hx, if_pos (by omega), rd98_at hj]
  unfold turnP turnI
  rw [if_pos k6, he, if_neg hs, hx, Int.toNat_natCast, rd98_at hj]
theorem elemI_I {t : S70} {kind elem : Int} {j : Nat} (k6 : kind = 6 ∨ kind = 7) (hj : j < t.f3.length) (hx : idxL (xId elem) t.f3 0 = (j : Int)) : elemI t kind elem = t.f3[j].f4 := by
  unfold elemI; rw [if_pos k6, hx, if_pos (by omega), rd98_at hj]
theorem elemI_C {t : S70} {kind elem : Int} {j : Nat} (k8 : kind = 8 ∨ kind = 9) (hj : j < t.f2.length) (hx : idxL (cId elem) t.f2 0 = (j : Int)) : elemI t kind elem = t.f2[j].f3 := by
  unfold elemI; rw [if_neg (by omega), if_pos (by omega), hx, if_pos (by omega), if_pos (by omega), rd75_at hj]
theorem elemI_N {t : S70} {kind elem : Int} {j : Nat} (k10 : kind = 10 ∨ kind = 11) (hj : j < t.f2.length) (hx : idxL (cId elem) t.f2 0 = (j : Int)) : elemI t kind elem = t.f2[j].f4 := by
  unfold elemI; rw [if_neg (by omega), if_pos (by omega), hx, if_pos (by omega), if_neg (by omega), rd75_at hj]
theorem turnP_C {t : S70} {kind elem b : Int} {j : Nat} (k8 : kind = 8 ∨ kind = 9) (hj : j < t.f2.length) (hx : idxL (cId elem) t.f2 0 = (j : Int)) (hs : t.f2[j].f3 + b ≠ 0) :
    turnP t kind elem b = ⟨t.f0, t.f1, t.f2.set j ⟨t.f2[j].f0, t.f2[j].f1, t.f2[j].f2, t.f2[j].f3 + b, t.f2[j].f4, t.f2[j].f5⟩, t.f3, t.f4⟩ := by
  have he := elemI_C (t := t) (elem := elem) k8 hj hx
  unfold turnP turnC
  rw [if_neg (by omega), if_pos k8, he, if_neg hs, hx, Int.toNat_natCast, rd75_at hj]
theorem turnP_N {t : S70} {kind elem b : Int} {j : Nat} (k10 : kind = 10 ∨ kind = 11) (hj : j < t.f2.length) (hx : idxL (cId elem) t.f2 0 = (j : Int)) :
    turnP t kind elem b = ⟨t.f0, t.f1, t.f2.set j ⟨t.f2[j].f0, t.f2[j].f1, t.f2[j].f2, t.f2[j].f3, t.f2[j].f4 + b, t.f2[j].f5⟩, t.f3, t.f4⟩ := by
  have he := elemI_N (t := t) (elem := elem) k10 hj hx
  unfold turnP turnN
  rw [if_neg (by omega), if_neg (by omega), he, hx, Int.toNat_natCast, rd75_at hj]
/-- A step up of an element of a table: the table may be, still; the element is one further; a step down undoes it. -/
theorem turn_up {t : S70} {kind elem : Int} (ht : tableB t = true) (h0 : 0 ≤ elemI t kind elem) (h4 : elemI t kind elem < 4) (hkey : ¬ (8 ≤ kind ∧ idxL (cId elem) t.f2 0 = 0)) :
    (turnP t kind elem 1).f0 = t.f0 ∧ (turnP t kind elem 1).f1 = t.f1 ∧ tableB (turnP t kind elem 1) = true ∧ elemI (turnP t kind elem 1) kind elem = elemI t kind elem + 1 ∧ idxL (cId elem) (turnP t kind elem 1).f2 0 = idxL (cId elem) t.f2 0 ∧ (0 < elemI t kind elem ∨ 10 ≤ kind → turnP (turnP t kind elem 1) kind elem (-1) = t) := by
  by_cases k6 : kind = 6 ∨ kind = 7
  · rcases idxL_at (xId elem) t.f3 with hn | ⟨j, hj, hx, hp⟩
    · unfold elemI at h0; rw [if_pos k6, hn, if_neg (by omega)] at h0; omega
    · have he := elemI_I (t := t) (elem := elem) k6 hj hx
      rw [he] at h0 h4 ⊢
      have hT := turnP_I (b := 1) k6 hj hx (by omega)
      have hj2 : j < (turnP t kind elem 1).f3.length := by rw [hT]; simpa using hj
      have hx2 : idxL (xId elem) (turnP t kind elem 1).f3 0 = (j : Int) := by rw [hT]; exact (idxL_set _ _ _ _ _ (fun h => rfl)).trans hx
      have hg2 : (turnP t kind elem 1).f3[j] = ⟨t.f3[j].f0, t.f3[j].f1, t.f3[j].f2, t.f3[j].f3, t.f3[j].f4 + 1⟩ := by simp only [hT, List.getElem_set_self]
      have hE := elemI_I (t := turnP t kind elem 1) (elem := elem) k6 hj2 hx2
      rw [hg2] at hE
      refine ⟨by rw [hT], by rw [hT], ?_, hE, by rw [hT], fun hc => ?_⟩
      · have := tableB_turnI j hj (t.f3[j].f4 + 1) ⟨by omega, by omega⟩ ht
        unfold turnI at this
        rw [if_neg (by omega), rd98_at hj] at this
        rw [hT]; exact this
      · rw [turnP_I (t := turnP t kind elem 1) (b := -1) k6 hj2 hx2 (by rw [hg2]; show t.f3[j].f4 + 1 + -1 ≠ 0; omega), hg2]
        simp only [hT, List.set_set]
        have : t.f3[j].f4 + 1 + -1 = t.f3[j].f4 := by omega
        rw [this]
        show (⟨t.f0, t.f1, t.f2, t.f3.set j t.f3[j], t.f4⟩ : S70) = t
        rw [List.set_getElem_self]
  · by_cases k8 : 8 ≤ kind ∧ kind ≤ 11
    · rcases idxL_at (cId elem) t.f2 with hn | ⟨j, hj, hx, hp⟩
      · unfold elemI at h0; rw [if_neg k6, if_pos k8, hn, if_neg (by omega)] at h0; omega
      · have hj0 : 0 < j := by rcases Nat.eq_zero_or_pos j with rfl | h; · exact absurd ⟨k8.1, hx⟩ hkey
                               · exact h
        by_cases k9 : kind = 8 ∨ kind = 9
        · have he := elemI_C (t := t) (elem := elem) k9 hj hx
          rw [he] at h0 h4 ⊢
          have hT := turnP_C (b := 1) k9 hj hx (by omega)
          have hj2 : j < (turnP t kind elem 1).f2.length := by rw [hT]; simpa using hj
          have hx2 : idxL (cId elem) (turnP t kind elem 1).f2 0 = (j : Int) := by rw [hT]; exact (idxL_set _ _ _ _ _ (fun h => rfl)).trans hx
          have hg2 : (turnP t kind elem 1).f2[j] = ⟨t.f2[j].f0, t.f2[j].f1, t.f2[j].f2, t.f2[j].f3 + 1, t.f2[j].f4, t.f2[j].f5⟩ := by simp only [hT, List.getElem_set_self]
          have hE := elemI_C (t := turnP t kind elem 1) (elem := elem) k9 hj2 hx2
          rw [hg2] at hE
          refine ⟨by rw [hT], by rw [hT], ?_, hE, by rw [hx2, hx], fun hc => ?_⟩
          · rw [hT]
            refine tableB_setC j hj0 _ (fun h => ⟨rfl, rfl, fun hi => ?_⟩) ht
            unfold columnB at hi ⊢
            simp only [Bool.and_eq_true] at hi ⊢
            exact ⟨hi.1, hi.2.1, hi.2.2.1, (stateB_iff _).2 ⟨by omega, by omega⟩, hi.2.2.2.2⟩
          · rw [turnP_C (t := turnP t kind elem 1) (b := -1) k9 hj2 hx2 (by rw [hg2]; show t.f2[j].f3 + 1 + -1 ≠ 0; omega), hg2]
            simp only [hT, List.set_set]
            have : t.f2[j].f3 + 1 + -1 = t.f2[j].f3 := by omega
            rw [this]
            show (⟨t.f0, t.f1, t.f2.set j t.f2[j], t.f3, t.f4⟩ : S70) = t
            rw [List.set_getElem_self]
        · have k10 : kind = 10 ∨ kind = 11 := by omega
          have he := elemI_N (t := t) (elem := elem) k10 hj hx
          rw [he] at h0 h4 ⊢
          have hT := turnP_N (b := 1) k10 hj hx
          have hj2 : j < (turnP t kind elem 1).f2.length := by rw [hT]; simpa using hj
          have hx2 : idxL (cId elem) (turnP t kind elem 1).f2 0 = (j : Int) := by rw [hT]; exact (idxL_set _ _ _ _ _ (fun h => rfl)).trans hx
          have hg2 : (turnP t kind elem 1).f2[j] = ⟨t.f2[j].f0, t.f2[j].f1, t.f2[j].f2, t.f2[j].f3, t.f2[j].f4 + 1, t.f2[j].f5⟩ := by simp only [hT, List.getElem_set_self]
          have hE := elemI_N (t := turnP t kind elem 1) (elem := elem) k10 hj2 hx2
          rw [hg2] at hE
          refine ⟨by rw [hT], by rw [hT], ?_, hE, by rw [hx2, hx], fun hc => ?_⟩
          · rw [hT]
            refine tableB_setC j hj0 _ (fun h => ⟨rfl, rfl, fun hi => ?_⟩) ht
            unfold columnB at hi ⊢
            simp only [Bool.and_eq_true] at hi ⊢
            exact ⟨hi.1, hi.2.1, hi.2.2.1, hi.2.2.2.1, (stateB_iff _).2 ⟨by omega, by omega⟩, hi.2.2.2.2.2⟩
          · rw [turnP_N (t := turnP t kind elem 1) (b := -1) k10 hj2 hx2, hg2]
            simp only [hT, List.set_set]
            have : t.f2[j].f4 + 1 + -1 = t.f2[j].f4 := by omega
            rw [this]
            show (⟨t.f0, t.f1, t.f2.set j t.f2[j], t.f3, t.f4⟩ : S70) = t
            rw [List.set_getElem_self]
    · unfold elemI at h0; rw [if_neg k6, if_neg k8] at h0; omega
/-- A step up that is taken: what it makes may be unless its number is at its end; the element is one further; a step down is refused at the numbers' end alone, and undoes it. -/
theorem round_up {v : Int} {ts : List S70} {nx kind table elem : Int} (h : (stepP v ts nx kind table elem true).err = 0) :
    (0 ≤ stateI v ts nx kind table elem ∧ stateI v ts nx kind table elem < 4) ∧ (stepP v ts nx kind table elem true).v = v + 1 ∧ (stepP v ts nx kind table elem true).nx = nx ∧
    stateI (v + 1) (stepP v ts nx kind table elem true).ts nx kind table elem = stateI v ts nx kind table elem + 1 ∧
    (¬ (stateI v ts nx kind table elem = 0 ∧ kind < 10) →
      (stepP (v + 1) (stepP v ts nx kind table elem true).ts nx kind table elem false = noTold 4 ∧ 1099511627774 ≤ v) ∨
      stepP (v + 1) (stepP v ts nx kind table elem true).ts nx kind table elem false = ⟨v + 1 + 1, ts, nx, 0, 0, 0⟩) := by
  obtain ⟨st, hst⟩ : ∃ st, stateI v ts nx kind table elem = st := ⟨_, rfl⟩
  have hU : stepP v ts nx kind table elem true = stepP v ts nx kind table elem true := rfl
  conv at hU => rhs; unfold stepP
  rw [hst] at hU
  by_cases q1 : schB v ts nx = false
  · rw [if_pos q1] at hU; rw [hU] at h; exact absurd h (by decide)
  rw [if_neg q1] at hU
  by_cases q2 : 1099511627775 ≤ v
  · rw [if_pos q2] at hU; rw [hU] at h; exact absurd h (by decide)
  rw [if_neg q2] at hU
  by_cases q3 : st < 0
  · rw [if_pos q3] at hU; rw [hU] at h; exact absurd h (by decide)
  rw [if_neg q3] at hU
  by_cases q4 : (true = true ∧ st = 4) ∨ (true = false ∧ st = 0)
  · rw [if_pos q4] at hU; rw [hU] at h; exact absurd h (by decide)
  rw [if_neg q4] at hU
  by_cases q5 : 8 ≤ kind ∧ idxL (cId elem) (rd_T70 ts (idxL (tId table) ts 0)).f2 0 = 0
  · rw [if_pos q5] at hU; rw [hU] at h; exact absurd h (by decide)
  rw [if_neg q5, if_neg (by simp), if_pos rfl] at hU
  have q1 : schB v ts nx = true := by simpa using q1
  have hS := hst
  unfold stateI at hS
  rcases idxL_at (tId table) ts with hn | ⟨j, hj, hx, hp⟩
  · rw [hn, if_neg (by omega)] at hS; omega
  rw [hx, if_pos (by omega), if_pos q1, rd70_at hj] at hS
  rw [hx, Int.toNat_natCast, rd70_at hj] at hU
  rw [hx, rd70_at hj] at q5
  have ht := schB_tab q1 ts[j] (List.getElem_mem hj)
  have hle := elemI_le ht kind elem
  obtain ⟨p0, p1, p2, p3, p4, p5⟩ := turn_up (kind := kind) (elem := elem) ht (by omega) (by simp at q4; omega) q5
  obtain ⟨t', ht'⟩ : ∃ t', turnP ts[j] kind elem 1 = t' := ⟨_, rfl⟩
  rw [ht'] at hU p0 p1 p2 p3 p4 p5
  have hx' : idxL (tId table) (ts.set j t') 0 = (j : Int) := (idxL_set _ _ _ _ _ (fun h => by unfold tId; rw [p0])).trans hx
  have hj' : j < (ts.set j t').length := by simpa using hj
  have hg' : (ts.set j t')[j] = t' := List.getElem_set_self _
  have hB : schB (v + 1) (ts.set j t') nx = true := by
    unfold schB at q1 ⊢
    simp only [Bool.and_eq_true, decide_eq_true_eq, List.length_set] at q1 ⊢
    obtain ⟨a1, a2, a3, a4, a5, a6⟩ := q1
    exact ⟨by omega, by omega, a3, a4, a5, tabsB_set nx t' ts j _ _ (fun h => ⟨p0, p1, fun _ => p2⟩) a6⟩
  have hS' : stateI (v + 1) (ts.set j t') nx kind table elem = st + 1 := by
    unfold stateI
    rw [hx', if_pos (by omega), if_pos hB, rd70_at hj', hg', p3, hS]
  rw [hU]
  refine ⟨⟨by omega, by rw [hst]; simp at q4; omega⟩, rfl, rfl, hS'.trans (by rw [hst]), fun hne => ?_⟩
  rw [hst] at hne
  by_cases r2 : 1099511627774 ≤ v
  · left
    refine ⟨?_, r2⟩
    unfold stepP
    rw [if_neg (by rw [hB]; simp), if_pos (by omega)]
  · right
    unfold stepP
    rw [if_neg (by rw [hB]; simp), if_neg (by omega), hS', if_neg (by omega), if_neg (by simp; omega), hx', rd70_at hj', hg', p4, if_neg q5, if_neg (by rintro ⟨-, h1, h2, -⟩; exact hne ⟨by omega, by omega⟩), if_neg (by simp), Int.toNat_natCast, p5 (by rw [hS]; omega), List.set_set, List.set_getElem_self]
end Go.Proofs.YtjgomlcdmpcoaaaDoor.H

namespace Go.Proofs.YtjgomlcdmpcoaaaDoor.H
open Go.RowKit Go.Proofs.YtjgomlcdmpcoaaaDoorW.PrintWords Go.Proofs.YtjgomlcdmpcoaaaDoorW.PrintLast Go.Proofs.YtjgomlcdmpcoaaaDoorW.PrintMore
open Go.Proofs.YtjgomlcdmpcoaaaDoor.D Go.Proofs.YtjgomlcdmpcoaaaDoor
attribute [local go_sem] max2_int   -- for this text's walks alone
set_option linter.unusedVariables false
set_option linter.unusedSimpArgs false
theorem mem_set_cases {α : Type} {l : List α} {k : Nat} {y a : α} (h : a ∈ l.set k y) : a ∈ l ∨ (k < l.length ∧ a = y) := by
  by_cases hk : k < l.length
  · rcases List.mem_or_eq_of_mem_set h with h | h
    · exact .inl h
    · exact .inr ⟨hk, h⟩
  · rw [List.set_eq_of_length_le (by omega)] at h
    exact .inl h
theorem turnP_wf {t : S70} (kind elem b : Int) (h : TabWf t) : TabWf (turnP t kind elem b) := by
  obtain ⟨h1, h2, h3⟩ := h
  unfold turnP
  split
  · unfold turnI
    split
    · exact ⟨h1, h2, fun x hx => h3 x (List.mem_of_mem_eraseIdx hx)⟩
    · refine ⟨h1, h2, fun x hx => ?_⟩
      rcases mem_set_cases hx with hx | ⟨hk, rfl⟩
      · exact h3 x hx
      · rw [rd98_at hk]
        have := h3 _ (List.getElem_mem hk)
        exact this
  · split
    · unfold turnC
      split
      · exact ⟨h1, fun x hx => h2 x (List.mem_of_mem_eraseIdx hx), h3⟩
      · refine ⟨h1, fun x hx => ?_, h3⟩
        rcases mem_set_cases hx with hx | ⟨hk, rfl⟩
        · exact h2 x hx
        · rw [rd75_at hk]
          have := h2 _ (List.getElem_mem hk)
          exact this
    · unfold turnN
      refine ⟨h1, fun x hx => ?_, h3⟩
      rcases mem_set_cases hx with hx | ⟨hk, rfl⟩
      · exact h2 x hx
      · rw [rd75_at hk]
        have := h2 _ (List.getElem_mem hk)
        exact this
theorem stepP_wf {v : Int} {ts : List S70} {nx kind table elem : Int} {up : Bool} (h : ∀ t ∈ ts, TabWf t) : ∀ t ∈ (stepP v ts nx kind table elem up).ts, TabWf t := by
  have hn : ∀ e, ∀ t ∈ (noTold e).ts, TabWf t := fun e t ht => by cases ht
  unfold stepP
  repeat (split; · exact hn _)
  intro t ht
  rcases mem_set_cases ht with ht | ⟨hk, rfl⟩
  · exact h t ht
  · rcases idxL_at (tId table) ts with e | ⟨j, hj, e, -⟩
    · rw [e] at hk ⊢
      exact turnP_wf _ _ _ (by unfold rd_T70; rw [List.getD_eq_getElem?_getD, List.getElem?_eq_getElem hk]; exact h _ (List.getElem_mem hk))
    · rw [e, rd70_at hj]
      exact turnP_wf _ _ _ (h _ (List.getElem_mem hj))
set_option maxRecDepth 100000 in
set_option maxHeartbeats 8000000 in
theorem cround_calls (v : Int) (ts : List S70) (nx : Int) (kind table elem : Int) (hwf : ∀ t ∈ ts, TabWf t) (hv64 : -9223372036854775808 ≤ v ∧ v < 9223372036854775808) (A : Option Addr) (c : Nat) (w : World) (hG : GL w) (hc : ts.length ≤ c) (hC : k70.C w A ts.length ts) :
    Calls Tryd.prog 19 #[.agg #[.int .i64 v, .slice A ts.length c, .int .i64 nx], .int .i64 kind, .int .i64 table, .int .i64 elem] w fun e w' => e = .returned (.bool true) ∧ Below w.heap.size w w' := by
  obtain ⟨gb, hgb⟩ := great2_calls v ts nx
  have hb0 := below_alloc (Below.refl _ w) (.cells #[.int .i64 v, .slice A ts.length c, .int .i64 nx] 28)
  have HX0 := Aside0.mk (BoxS.mk (heap_alloc_new w (.cells #[.int .i64 v, .slice A ts.length c, .int .i64 nx] 28)) hc (Kd.C_below hC hb0))
  have HB0 := Aside0.mk hb0
  have HGR := Lib.hid (hgb.2 A c _ hc (Kd.C_below hC hb0))
  have HG := Aside0.mk hG
  have HWF := Lib.hid hwf
  have HAW := Lib.hid (fun W (hb : Below w.heap.size w W) => awake19_calls W (HG.out.of_below hb))
  clear hb0 hgb hC hG hwf
  go_enter Tryd.func19, Tryd.ntmps19
  go_wp2_with fail
  refine HGR.out.mono ?_
  rintro e w1 ⟨rfl, hb1⟩
  have HB1 := Aside0.mk (below_then HB0.out HB0.out.size hb1)
  have HX1 := Aside0.mk (HX0.out.step hb1)
  clear hb1 HGR HX0 HB0
  cases gb with
  | true =>
    go_wp2_with fail
    refine (HAW.out _ HB1.out).mono ?_
    rintro e w9 ⟨rfl, hb9⟩
    have HB9 := Aside0.mk (below_then HB1.out HB1.out.size hb9)
    clear hb9
    go_wp2
    go_ret
    exact ⟨rfl, HB9.out⟩
  | false =>
  have x0 := HX1.out.c0
  have x1 := HX1.out.c1
  have x2 := HX1.out.c2
  have HP := Lib.hid (fun h => round_up (v := v) (ts := ts) (nx := nx) (kind := kind) (table := table) (elem := elem) h)
  have HWF2 := Lib.hid (stepP_wf (v := v) (nx := nx) (kind := kind) (table := table) (elem := elem) (up := true) HWF.out)
  have H1 := stepG_calls v ts nx kind table elem true HWF.out hv64 A c w1 (HG.out.of_below HB1.out) hc HX1.out.C
  obtain ⟨R, hR⟩ : ∃ R, stepP v ts nx kind table elem true = R := ⟨_, rfl⟩
  rw [hR] at H1 HP HWF2
  have HR := Lib.hid hR
  obtain ⟨rv, rts, rnx, rt, re, rerr⟩ := R
  have H1 := Lib.hid H1
  clear hR
  go_wp2_with fail
  refine H1.out.mono ?_
  rintro e w2 ⟨A2, c2, rfl, hrow2, hb2⟩
  try simp only [] at hrow2
  obtain ⟨-, hl2, hC2⟩ := Kd.R_reads' hrow2
  have HB2 := Aside0.mk (below_alloc (below_then HB1.out HB1.out.size hb2) (.cells #[.int .i64 rv, .slice A2 rts.length c2, .int .i64 rnx] 28))
  have HX2 := Aside0.mk ((HX1.out.step hb2).step (below_alloc (Below.refl _ _) (.cells #[.int .i64 rv, .slice A2 rts.length c2, .int .i64 rnx] 28)))
  have HY2 := Aside0.mk (BoxS.new hl2 hC2 rv rnx)
  have hbx := lt_of_block (HX1.out.step hb2).box
  clear x0 x1 x2
  have x0 := (HX1.out.step hb2).c0
  have x1 := (HX1.out.step hb2).c1
  have x2 := (HX1.out.step hb2).c2
  clear hb2 hrow2 hl2 hC2 H1 HX1 HB1
  by_cases he : rerr = 0
  rotate_left
  · have he1 : (rerr != 0) = true := by simpa using he
    go_wp2_with (go_at_call 50; refine (num19_calls _ _).mono ?_; rintro e w' ⟨rfl, rfl⟩)
    refine (HAW.out _ HB2.out).mono ?_
    rintro e w9 ⟨rfl, hb9⟩
    have HB9 := Aside0.mk (below_then HB2.out HB2.out.size hb9)
    clear hb9
    go_wp2
    go_ret
    exact ⟨rfl, HB9.out⟩
  subst he
  obtain ⟨⟨hst0, hst4⟩, h2, h3, hS2, hD⟩ := HP.out rfl
  try simp only [] at h2 h3 hS2 hD
  subst h2 h3
  obtain ⟨st, hst⟩ : ∃ st, stateI v ts rnx kind table elem = st := ⟨_, rfl⟩
  rw [hst] at hst0 hst4 hS2 hD
  have hv2 : 0 ≤ v ∧ v < 1099511627776 := by
    have := HR.out
    unfold stepP at this
    by_cases q1 : schB v ts rnx = false
    · rw [if_pos q1] at this; exact absurd (congrArg Told.err this) (by simp [noTold])
    · have q1 : schB v ts rnx = true := by simpa using q1
      unfold schB at q1
      simp only [Bool.and_eq_true, decide_eq_true_eq] at q1
      exact ⟨q1.1, q1.2.1⟩
  have H3 := Lib.hid (fun W (hG : GL W) (hC : k70.C W A ts.length ts) => cstate_calls v ts rnx kind table elem HWF.out A c W hG hc hC)
  have H4 := Lib.hid (fun W (hG : GL W) (hl : rts.length ≤ c2) (hC : k70.C W A2 rts.length rts) => cstate_calls (v + 1) rts rnx kind table elem HWF2.out A2 c2 W hG hl hC)
  rw [hst, if_neg (by omega)] at H3
  obtain ⟨m, hm⟩ : ∃ m, st + 1 = m := ⟨_, rfl⟩
  rw [hS2, if_neg (by omega), hm] at H4
  have H5 := fun W (hG : GL W) (hl : rts.length ≤ c2) (hC : k70.C W A2 rts.length rts) => stepG_calls (v + 1) rts rnx kind table elem false HWF2.out ⟨by omega, by omega⟩ A2 c2 W hG hl hC
  obtain ⟨Q, hQ⟩ : ∃ Q, stepP (v + 1) rts rnx kind table elem false = Q := ⟨_, rfl⟩
  rw [hQ] at H5 hD
  have H5 := Lib.hid H5
  have HD := Lib.hid hD
  clear hD hQ hS2
  obtain ⟨qv, qts, qnx, qt, qe, qerr⟩ := Q
  obtain ⟨b1, hb1⟩ : ∃ b, decide (0 ≤ st) = b := ⟨_, rfl⟩
  obtain ⟨b2, hb2⟩ : ∃ b, decide (0 ≤ m) = b := ⟨_, rfl⟩
  rw [hb1] at H3
  rw [hb2] at H4
  clear hb1 hb2 hst
  go_wp2_with (go_at_call 50; refine (num19_calls _ _).mono ?_; rintro e w' ⟨rfl, rfl⟩)
  refine (H3.out _ (HG.out.of_below HB2.out) HX2.out.C).mono ?_
  rintro e w3 ⟨rfl, hb3⟩
  have HB3 := Aside0.mk (below_then HB2.out HB2.out.size hb3)
  have HX3 := Aside0.mk (HX2.out.step hb3)
  have HY3 := Aside0.mk (HY2.out.step hb3)
  clear x0 x1 x2
  have y0 := HY3.out.c0
  have y1 := HY3.out.c1
  have y2 := HY3.out.c2
  clear hb3 H3 HX2 HY2 HB2
  go_wp2_with fail
  refine (H4.out _ (HG.out.of_below HB3.out) HY3.out.len HY3.out.C).mono ?_
  rintro e w4 ⟨rfl, hb4⟩
  have HB4 := Aside0.mk (below_then HB3.out HB3.out.size hb4)
  have HX4 := Aside0.mk (HX3.out.step hb4)
  have HY4 := Aside0.mk (HY3.out.step hb4)
  clear y0 y1 y2
  have y0 := HY4.out.c0
  have y1 := HY4.out.c1
  have y2 := HY4.out.c2
  clear hb4 H4 HX3 HY3 HB3
  go_wp2_with fail
  refine (H5.out _ (HG.out.of_below HB4.out) HY4.out.len HY4.out.C).mono ?_
  rintro e w5 ⟨A5, c5, rfl, hrow5, hb5⟩
  try simp only [] at hrow5
  obtain ⟨-, hl5, hC5⟩ := Kd.R_reads' hrow5
  have HC5 := Aside0.mk hC5
  have HB5b := Aside0.mk (below_then HB4.out HB4.out.size hb5)
  have HCX := Aside0.mk (HX4.out.step hb5).C
  have HB5 := Aside0.mk (below_alloc (below_then HB4.out HB4.out.size hb5) (.cells #[.int .i64 qv, .slice A5 qts.length c5, .int .i64 qnx] 28))
  have HX5 := Aside0.mk ((HX4.out.step hb5).step (below_alloc (Below.refl _ _) (.cells #[.int .i64 qv, .slice A5 qts.length c5, .int .i64 qnx] 28)))
  have HZ5 := Aside0.mk (BoxS.new hl5 hC5 qv qnx)
  have hw5 : w.heap.size ≤ w5.heap.size := by have := (below_then HB4.out HB4.out.size hb5).size; omega
  have HW5 := Lib.hid hw5
  have hbx := lt_of_block (HX4.out.step hb5).box
  clear y0 y1 y2
  have x0 := (HX4.out.step hb5).c0
  have x1 := (HX4.out.step hb5).c1
  have x2 := (HX4.out.step hb5).c2
  clear hb5 hrow5 hl5 hC5 H5 HX4 HY4 HB4 hw5
  by_cases hz : st = 0 ∧ kind < 10
  · obtain ⟨rfl, hk⟩ := hz
    have hk1 : decide (kind < 10) = true := decide_eq_true hk
    go_wp2_with fail
    refine (HAW.out _ HB5.out).mono ?_
    rintro e w9 ⟨rfl, hb9⟩
    have HB9 := Aside0.mk (below_then HB5.out HB5.out.size hb9)
    clear hb9
    go_wp2
    go_ret
    exact ⟨rfl, HB9.out⟩
  have HQ := Lib.hid (HD.out hz)
  clear HD
  have hcs : (st = 0 ∧ decide (kind < 10) = false) ∨ (st == 0) = false := by
    by_cases h0 : st = 0
    · exact .inl ⟨h0, decide_eq_false (fun h => hz ⟨h0, h⟩)⟩
    · exact .inr (by simpa using h0)
  clear hz
  rcases HQ.out with ⟨hq, hv⟩ | hq
  · obtain ⟨rfl, rfl, rfl, -, -, rfl⟩ : qv = 0 ∧ qts = [] ∧ qnx = 0 ∧ qt = 0 ∧ qe = 0 ∧ qerr = 4 := by
      unfold noTold at hq; simpa using hq
    have hv1 : decide (1099511627774 ≤ v) = true := decide_eq_true hv
    clear hq HQ
    rcases hcs with ⟨rfl, hk1⟩ | hk1
    all_goals
      go_wp2_with (go_at_call 50; refine (num19_calls _ _).mono ?_; rintro e w' ⟨rfl, rfl⟩)
      refine (HAW.out _ HB5.out).mono ?_
      rintro e w9 ⟨rfl, hb9⟩
      have HB9 := Aside0.mk (below_then HB5.out HB5.out.size hb9)
      clear hb9
      go_wp2
      go_ret
      exact ⟨rfl, HB9.out⟩
  · obtain ⟨rfl, rfl, rfl, -, -, rfl⟩ : qv = v + 1 + 1 ∧ qts = ts ∧ qnx = rnx ∧ qt = 0 ∧ qe = 0 ∧ qerr = 0 := by simpa using hq
    clear hq HQ
    have HSE := Lib.hid (fun (W : World) (hA : k70.C W A5 qts.length qts) (hB : k70.C W A qts.length qts) => same_eq v qnx qts A5 A c5 c W hA hB)
    have HW := Lib.hid (show IntKind.i64.wrap (st + 1) = st + 1 from IntWalk.i64_in _ (by omega))
    have HM := Lib.hid hm
    clear hm
    rcases hcs with ⟨rfl, hk1⟩ | hk1
    · obtain rfl : m = 1 := by have := HM.out; omega
      go_wp2_with (go_at_call 50; refine (num19_calls _ _).mono ?_; rintro e w' ⟨rfl, rfl⟩)
      refine (HSE.out _ (Kd.C_below HC5.out (below_alloc (Below.refl _ _) _)) (Kd.C_below HCX.out (below_alloc (Below.refl _ _) _))).mono ?_
      rintro e w6 ⟨rfl, hb6⟩
      have HB6 := Aside0.mk (below_then (below_alloc HB5b.out _) (below_alloc HB5b.out _).size hb6)
      clear hb6
      go_wp2_with fail
      refine (HAW.out _ HB6.out).mono ?_
      rintro e w9 ⟨rfl, hb9⟩
      have HB9 := Aside0.mk (below_then HB6.out HB6.out.size hb9)
      clear hb9
      go_wp2
      go_ret
      exact ⟨rfl, HB9.out⟩
    · have hw1 := HW.out
      have hm1 : (m == m) = true := by simp
      rw [HM.out] at hw1
      go_wp2_with (go_at_call 50; refine (num19_calls _ _).mono ?_; rintro e w' ⟨rfl, rfl⟩)
      rotate_left
      · exfalso
        have := HM.out
        first | omega | (simp_all; done)
      refine (HSE.out _ (Kd.C_below HC5.out (below_alloc (Below.refl _ _) _)) (Kd.C_below HCX.out (below_alloc (Below.refl _ _) _))).mono ?_
      rintro e w6 ⟨rfl, hb6⟩
      have HB6 := Aside0.mk (below_then (below_alloc HB5b.out _) (below_alloc HB5b.out _).size hb6)
      clear hb6
      go_wp2_with fail
      refine (HAW.out _ HB6.out).mono ?_
      rintro e w9 ⟨rfl, hb9⟩
      have HB9 := Aside0.mk (below_then HB6.out HB6.out.size hb9)
      clear hb9
      go_wp2
      go_ret
      exact ⟨rfl, HB9.out⟩
end Go.Proofs.YtjgomlcdmpcoaaaDoor.H

namespace Go.Proofs.YtjgomlcdmpcoaaaDoor.catalogRound
open Go.ChangeShapes Go.WideShapes Go.ChangeAt Go.RowKit Go.Joins
open Go.Proofs.YtjgomlcdmpcoaaaDoor.HLaid Go.Proofs.YtjgomlcdmpcoaaaDoor.H

theorem laidOut : laidOutB Tryd.prog = true := by kernel_rfl
set_option maxRecDepth 100000 in
theorem lifted (os : Os) (started : os.Started) (H : Type) (enc : TypeId × Value → H) (F : Stop.Interp) :
    ReturnsInHanded {} Tryd.checked os 19 .any ((OpenSpec.ofChange Rows.catalogRoundSpec).preRow enc Tryd.prog Tryd.f19 Rows.catalogRoundRow.domain false Rows.catalogRoundRow.laid) (((OpenSpec.ofChange Rows.catalogRoundSpec).at F).post enc Tryd.prog Tryd.f19 false true false false) := by
  have hx : DataW.whole enc Tryd.prog ((laidWorld os).forCall (fun _ _ => 0) ⟨#[], #[.agg #[.int .i64 0, .slice none 0 0, .int .i64 0], .int .i64 0, .int .i64 0, .int .i64 0], []⟩).memory Tryd.f19.params.toList Rows.catalogRoundSpec.vars false #[Value.agg #[.int .i64 0, .slice none 0 0, .int .i64 0], .int .i64 0, .int .i64 0, .int .i64 0].toList 8 = some ([.agg [.lit (.int .i64 0), .nil, .lit (.int .i64 0)], .lit (.int .i64 0), .lit (.int .i64 0), .lit (.int .i64 0)], [], []) := by kernel_rfl
  refine returnsInHanded_of_row (C := Tryd.checked) (s := OpenSpec.ofChange Rows.catalogRoundSpec) own started (by kernel_rfl) Tryd.func19
    (witness_row_atRef (enc := enc) (C := Tryd.checked) false (laidWorld os) #[.agg #[.int .i64 0, .slice none 0 0, .int .i64 0], .int .i64 0, .int .i64 0, .int .i64 0] rfl (by kernel_rfl) (by kernel_rfl) (by kernel_rfl)
      (OpenSpec.preRow_of_cond 8 hx (by kernel_rfl) (fun k hk => by cases hk) (by kernel_rfl) (laid_met os _))) ?_
  intro W base args ds gs before hval hW _ _ _ hL _ _
  have hW' := hW
  obtain ⟨p, q, hA0, hV, rfl, hfz, hnd⟩ := hW
  have hA : DataW.TrodAll enc Tryd.prog W 0 (fun _ => true) true Tryd.f19.params.toList args.toList ds p := hA0
  rw [Tryd.params19] at hA hval
  obtain ⟨v_0, v_1, v_2, v_3, d0, d1, d2, d3, p0, p1, p2, p3, rfl, rfl, rfl, h0, h1, h2, h3⟩ := trodAll_four hA
  obtain ⟨rfl, rfl⟩ := trodVars_none hV
  obtain ⟨a1, rfl, rfl, rfl, w1⟩ := open_int Tryd.underlying3 (hval 1 3 v_1 rfl rfl) h1
  have q1 : -9223372036854775808 ≤ a1 ∧ a1 < 9223372036854775808 := by
    have h := w1
    simp [Lit.wf, IntKind.min, IntKind.max, IntKind.signed, IntKind.bits] at h
    omega
  obtain ⟨a2, rfl, rfl, rfl, w2⟩ := open_int Tryd.underlying3 (hval 2 3 v_2 rfl rfl) h2
  have q2 : -9223372036854775808 ≤ a2 ∧ a2 < 9223372036854775808 := by
    have h := w2
    simp [Lit.wf, IntKind.min, IntKind.max, IntKind.signed, IntKind.bits] at h
    omega
  obtain ⟨a3, rfl, rfl, rfl, w3⟩ := open_int Tryd.underlying3 (hval 3 3 v_3 rfl rfl) h3
  have q3 : -9223372036854775808 ≤ a3 ∧ a3 < 9223372036854775808 := by
    have h := w3
    simp [Lit.wf, IntKind.min, IntKind.max, IntKind.signed, IntKind.bits] at h
    omega
  have hlt0 : ∀ x ∈ p0, x.block < W.heap.size := by
    obtain ⟨m, hm⟩ := h0
    exact DataW.trod_lt m _ _ _ hm
  obtain ⟨cs0, rfl, _⟩ := okWide_struct Tryd.underlying28 (hval 0 28 v_0 rfl rfl)
  have hm_0 : ∃ m, DataW.trod enc Tryd.prog W 0 (fun _ => true) true m 28 cs0.toList = some (d0, p0) := h0
  obtain ⟨m0, hm_0⟩ := hm_0
  obtain ⟨v0, ts0, nx0, A0, c0, hcs0, hc0, hC0, hwf0, hv0, _⟩ := open_schema hm_0
  obtain rfl : cs0 = #[.int .i64 v0, .slice A0 ts0.length c0, .int .i64 nx0] := by
    rw [← Array.toList_inj]
    exact hcs0
  clear hA0
  refine (cround_calls v0 ts0 nx0 a1 a2 a3 hwf0 hv0 A0 c0 W (gl hL) hc0 hC0).mono fun e W' ⟨he, bel⟩ => ?_
  subst he
  exact ⟨_, rfl, _, _, _, [], _, [], hW', trodAll_mk1 (shut_bool Tryd.underlying4 _), trodAll_mk4 (Below.trod laidOut (by kernel_rfl) (of_decide_eq_true (by kernel_rfl)) h0 bel hlt0) (shut_int Tryd.underlying3 w1) (shut_int Tryd.underlying3 w2) (shut_int Tryd.underlying3 w3), rfl, bel.frame _, fun h => by cases h⟩

theorem said : Rows.CatalogRoundSaid :=
  OpenClaim.holds_of_cond 19 Tryd.f19 rfl rfl rfl rfl rfl rfl rfl ⟨rfl, rfl, rfl, rfl, rfl⟩ rfl rfl rfl rfl rfl (by kernel_rfl) Tryd.func19 (joined (by kernel_rfl))
    (of_decide_eq_true (by kernel_rfl)) (by unfold Func.isWrapper; first | (rw [if_pos (by decide +kernel)]; kernel_rfl) | (rw [if_neg (by decide +kernel)]; exact ⟨rfl, rfl⟩))
    (fun os started H enc _ F => by rw [OpenClaim.pre_eq_preRow]; exact lifted os started H enc F)

theorem plain (f : FuncId) (fn : Func) (hf : Tryd.pinned.checked.prog.funcNamed "falsework/falseworklaw19.CatalogRound" = some f) (hfn : Tryd.pinned.checked.prog.funcs[f]? = some fn) :
    false = Tryd.pinned.checked.prog.looks [] ∧ ∀ (j : Nat) t, fn.params[j]? = some t → Tryd.pinned.checked.prog.wantsStandIn t = false := by
  obtain rfl : f = 19 := Option.some.inj ((show Tryd.prog.funcNamed "falsework/falseworklaw19.CatalogRound" = some 19 by kernel_rfl).symm.trans hf) |>.symm
  obtain rfl : fn = Tryd.f19 := (Option.some.inj (Tryd.func19.symm.trans hfn)).symm
  refine ⟨by kernel_rfl, fun j t ht => ?_⟩
  rw [Tryd.params19] at ht
  have ht := Array.mem_of_getElem? ht
  simp only [List.mem_toArray, List.mem_cons, List.not_mem_nil, or_false] at ht
  obtain rfl | rfl | rfl | rfl := ht
  · exact (show Tryd.prog.wantsStandIn 28 = false by kernel_rfl)
  · exact (show Tryd.prog.wantsStandIn 3 = false by kernel_rfl)
  · exact (show Tryd.prog.wantsStandIn 3 = false by kernel_rfl)
  · exact (show Tryd.prog.wantsStandIn 3 = false by kernel_rfl)

/-- THE CARD. -/
theorem card : Rows.CatalogRoundCardSaid :=
  Claim7.holds_tied_plain_at .later [] _ _ _ _ said (fun _ h => by cases h) (by kernel_rfl) (fun _ h => by cases h) catalogRound_row_tie rfl ⟨rfl, rfl⟩ hmain rfl plain (by kernel_rfl)
end Go.Proofs.YtjgomlcdmpcoaaaDoor.catalogRound
