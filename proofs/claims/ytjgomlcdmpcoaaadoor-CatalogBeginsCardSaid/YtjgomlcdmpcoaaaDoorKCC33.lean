/- Own texts of this session, packed by its program wip/pp/pack.py: lemmas and walks of functions. -/
import Derived.Test.YtjgomlcdmpcoaaaDoorKCC14
import Derived.Test.YtjgomlcdmpcoaaaDoorKCC31
import Derived.Test.YtjgomlcdmpcoaaaDoorKCC32
namespace Go.Proofs.YtjgomlcdmpcoaaaDoor.H
open Go.RowKit Go.Proofs.YtjgomlcdmpcoaaaDoorW.PrintWords Go.Proofs.YtjgomlcdmpcoaaaDoorW.PrintLast Go.Proofs.YtjgomlcdmpcoaaaDoorW.PrintMore
open Go.Proofs.YtjgomlcdmpcoaaaDoor.D Go.Proofs.YtjgomlcdmpcoaaaDoor
set_option linter.unusedVariables false
section
variable (v : Int) (ts : List S70) (nx : Int)
abbrev gL0 (k : Nat) (i : Int) := falseworklaw6_Great.l0 k i v ts nx
abbrev gL1 (k : Nat) (i j : Int) (t : S70) := falseworklaw6_Great.l1 k i j v ts nx t.f0 t.f1 t.f2 t.f3 t.f4
abbrev gL2 (k : Nat) (i j : Int) (t : S70) := falseworklaw6_Great.l2 k i j v ts nx t.f0 t.f1 t.f2 t.f3 t.f4
theorem gL2_tells (t : S70) (ht : t.f3.length ≤ 50) (i : Nat) (hi : i < 20) (K : Nat) (hR : ∀ k, K ≤ k → ∃ r, gL0 v ts nx k ((i + 1 : Nat) : Int) = some r) : ∀ (m j k : Nat), j + m = t.f3.length → K + m + 1 ≤ k → ∃ r, gL2 v ts nx k i j t = some r
  | 0, j, k, h, hk => by
    obtain ⟨k, rfl⟩ : ∃ k', k = k' + 1 := ⟨k - 1, by omega⟩
    obtain ⟨r, hr⟩ := hR k (by omega)
    refine ⟨r, ?_⟩
    show falseworklaw6_Great.l2 (k + 1) _ _ _ _ _ _ _ _ _ _ = _
    rw [falseworklaw6_Great.l2, if_neg (by omega), wrap_nat i (by omega)]
    exact hr
  | m + 1, j, k, h, hk => by
    obtain ⟨k, rfl⟩ : ∃ k', k = k' + 1 := ⟨k - 1, by omega⟩
    obtain ⟨r, hr⟩ := gL2_tells t ht i hi K hR m (j + 1) k (by omega) (by omega)
    show ∃ r, falseworklaw6_Great.l2 (k + 1) _ _ _ _ _ _ _ _ _ _ = some r
    rw [falseworklaw6_Great.l2, if_pos (by omega), if_pos (by omega), wrap_nat j (by omega)]
    split
    · exact ⟨_, rfl⟩
    split
    · exact ⟨_, rfl⟩
    · exact ⟨r, hr⟩
theorem gL1_tells (t : S70) (hc : t.f2.length ≤ 50) (ht : t.f3.length ≤ 50) (i : Nat) (hi : i < 20) (K : Nat) (hR : ∀ k, K ≤ k → ∃ r, gL0 v ts nx k ((i + 1 : Nat) : Int) = some r) : ∀ (m j k : Nat), j + m = t.f2.length → K + m + 52 ≤ k → ∃ r, gL1 v ts nx k i j t = some r
  | 0, j, k, h, hk => by
    obtain ⟨k, rfl⟩ : ∃ k', k = k' + 1 := ⟨k - 1, by omega⟩
    obtain ⟨r, hr⟩ := gL2_tells v ts nx t ht i hi K hR t.f3.length 0 k (by omega) (by omega)
    refine ⟨r, ?_⟩
    show falseworklaw6_Great.l1 (k + 1) _ _ _ _ _ _ _ _ _ _ = _
    rw [falseworklaw6_Great.l1, if_neg (by omega)]
    exact hr
  | m + 1, j, k, h, hk => by
    obtain ⟨k, rfl⟩ : ∃ k', k = k' + 1 := ⟨k - 1, by omega⟩
    obtain ⟨r, hr⟩ := gL1_tells t hc ht i hi K hR m (j + 1) k (by omega) (by omega)
    show ∃ r, falseworklaw6_Great.l1 (k + 1) _ _ _ _ _ _ _ _ _ _ = some r
    rw [falseworklaw6_Great.l1, if_pos (by omega), if_pos (by omega), wrap_nat j (by omega)]
    split
    · exact ⟨_, rfl⟩
    split
    · exact ⟨_, rfl⟩
    · exact ⟨r, hr⟩
theorem gL0_tells (hn : ts.length ≤ 20) : ∀ (m i k : Nat), i + m = ts.length → 200 * (m + 1) ≤ k → ∃ r, gL0 v ts nx k i = some r
  | 0, i, k, h, hk => by
    obtain ⟨k, rfl⟩ : ∃ k', k = k' + 1 := ⟨k - 1, by omega⟩
    refine ⟨false, ?_⟩
    show falseworklaw6_Great.l0 (k + 1) _ _ _ _ = _
    rw [falseworklaw6_Great.l0, if_neg (by omega)]
  | m + 1, i, k, h, hk => by
    obtain ⟨k, rfl⟩ : ∃ k', k = k' + 1 + 1 := ⟨k - 2, by omega⟩
    have hi : i < ts.length := by omega
    have hj : ∀ b, falseworklaw6_Great.j1 (k + 1) i b v ts nx ts[i].f0 ts[i].f1 ts[i].f2 ts[i].f3 ts[i].f4 = if b = true then some true else gL1 v ts nx k i 0 ts[i] := fun b => by rw [falseworklaw6_Great.j1]
    show ∃ r, falseworklaw6_Great.l0 (k + 1 + 1) _ _ _ _ = some r
    rw [falseworklaw6_Great.l0, if_pos (by omega), if_pos (by omega), rd70 _ _ hi, hj, hj]
    split
    · exact ⟨_, if_pos rfl⟩
    split
    · exact ⟨_, if_pos rfl⟩
    rename_i h1 h2
    by_cases h3 : (ts[i].f3.length : Int) > 50
    · rw [decide_eq_true h3]
      exact ⟨_, if_pos rfl⟩
    · rw [decide_eq_false h3, if_neg (by simp)]
      exact gL1_tells v ts nx ts[i] (by omega) (by omega) i (by omega) (200 * (m + 1)) (fun k hk => gL0_tells hn m (i + 1) k (by omega) hk) ts[i].f2.length 0 k (by omega) (by omega)
theorem great_tells : ∃ r, falseworklaw6_Great.f 5000 v ts nx = some r := by
  unfold falseworklaw6_Great.f
  split
  · exact ⟨_, rfl⟩
  · exact gL0_tells v ts nx (by omega) ts.length 0 5000 (by omega) (by omega)
end
end Go.Proofs.YtjgomlcdmpcoaaaDoor.H
namespace Go.Proofs.YtjgomlcdmpcoaaaDoor.H
open Go.RowKit Go.Proofs.YtjgomlcdmpcoaaaDoorW.PrintWords Go.Proofs.YtjgomlcdmpcoaaaDoorW.PrintLast Go.Proofs.YtjgomlcdmpcoaaaDoorW.PrintMore
open Go.Proofs.YtjgomlcdmpcoaaaDoor.D Go.Proofs.YtjgomlcdmpcoaaaDoor
set_option linter.unusedVariables false
set_option linter.unusedSimpArgs false
structure BoxS (W : World) (Y : Nat) (v : Int) (A : Option Addr) (c : Nat) (ts : List S70) (nx : Int) : Prop where
  box : W.heap[Y]? = some (.cells #[.int .i64 v, .slice A ts.length c, .int .i64 nx] 28 (0, 0))
  len : ts.length ≤ c
  C : k70.C W A ts.length ts
section
variable {W W1 : World} {Y : Nat} {v nx : Int} {A : Option Addr} {c : Nat} {ts : List S70}
theorem BoxS.step (h : BoxS W Y v A c ts nx) (hb : Below W.heap.size W W1) : BoxS W1 Y v A c ts nx := ⟨blk_below h.box hb, h.len, Kd.C_below h.C hb⟩
theorem BoxS.new (hl : ts.length ≤ c) (hC : k70.C W A ts.length ts) (v nx : Int) : BoxS (W.alloc (.cells #[.int .i64 v, .slice A ts.length c, .int .i64 nx] 28)) W.heap.size v A c ts nx := ⟨heap_alloc_new W _, hl, Kd.C_below hC (below_alloc (Below.refl _ _) _)⟩
theorem BoxS.c0 (h : BoxS W Y v A c ts nx) : W.cell? ⟨Y, 0, none⟩ = some (.int .i64 v) := blk_cell h.box rfl
theorem BoxS.c1 (h : BoxS W Y v A c ts nx) : W.cell? ⟨Y, 1, none⟩ = some (.slice A ts.length c) := blk_cell h.box rfl
theorem BoxS.c2 (h : BoxS W Y v A c ts nx) : W.cell? ⟨Y, 2, none⟩ = some (.int .i64 nx) := blk_cell h.box rfl
end
end Go.Proofs.YtjgomlcdmpcoaaaDoor.H
namespace Go.Proofs.YtjgomlcdmpcoaaaDoor.H
open Go.RowKit Go.Proofs.YtjgomlcdmpcoaaaDoorW.PrintWords Go.Proofs.YtjgomlcdmpcoaaaDoorW.PrintLast Go.Proofs.YtjgomlcdmpcoaaaDoorW.PrintMore
open Go.Proofs.YtjgomlcdmpcoaaaDoor.D Go.Proofs.YtjgomlcdmpcoaaaDoor
set_option linter.unusedVariables false
section
variable (v : Int) (ts : List S70) (nx : Int)
theorem gs2 (t : S70) (ht : t.f3.length ≤ 50) (i : Nat) (hi : i < 20) : ∀ (k j : Nat), gL2 v ts nx k i j t = some false → (∀ j' (h : j' < t.f3.length), j ≤ j' → t.f3[j'].f2.length ≤ 50) ∧ ∃ k', k' < k ∧ gL0 v ts nx k' ((i + 1 : Nat) : Int) = some false
  | 0, j, h => by simp [gL2, falseworklaw6_Great.l2] at h
  | k + 1, j, h => by
    have h' : falseworklaw6_Great.l2 (k + 1) i j v ts nx t.f0 t.f1 t.f2 t.f3 t.f4 = some false := h
    rw [falseworklaw6_Great.l2] at h'
    by_cases hj : (j : Int) < (t.f3.length : Int)
    · rw [if_pos hj, if_pos (by omega), wrap_nat j (by omega)] at h'
      have hj' : j < t.f3.length := by omega
      rw [rd98 _ _ hj'] at h'
      by_cases h1 : (t.f3[j].f1.size : Int) > 1000
      · rw [if_pos h1] at h'; cases h'
      rw [if_neg h1] at h'
      by_cases h2 : (t.f3[j].f2.length : Int) > 50
      · rw [if_pos h2] at h'; cases h'
      rw [if_neg h2] at h'
      obtain ⟨a, k', hk, b⟩ := gs2 t ht i hi k (j + 1) h'
      refine ⟨fun j' hj'' hle => ?_, k', by omega, b⟩
      by_cases e : j = j'
      · subst e; omega
      · exact a j' hj'' (by omega)
    · rw [if_neg hj, wrap_nat i (by omega)] at h'
      exact ⟨fun j' hj' hle => by omega, k, by omega, h'⟩
theorem gs1 (t : S70) (hc : t.f2.length ≤ 50) (ht : t.f3.length ≤ 50) (i : Nat) (hi : i < 20) : ∀ (k j : Nat), gL1 v ts nx k i j t = some false → (∀ x ∈ t.f3, x.f2.length ≤ 50) ∧ ∃ k', k' < k ∧ gL0 v ts nx k' ((i + 1 : Nat) : Int) = some false
  | 0, j, h => by simp [gL1, falseworklaw6_Great.l1] at h
  | k + 1, j, h => by
    have h' : falseworklaw6_Great.l1 (k + 1) i j v ts nx t.f0 t.f1 t.f2 t.f3 t.f4 = some false := h
    rw [falseworklaw6_Great.l1] at h'
    by_cases hj : (j : Int) < (t.f2.length : Int)
    · rw [if_pos hj, if_pos (by omega), wrap_nat j (by omega)] at h'
      have hj' : j < t.f2.length := by omega
      rw [rd75 _ _ hj'] at h'
      by_cases h1 : (t.f2[j].f1.size : Int) > 1000
      · rw [if_pos h1] at h'; cases h'
      rw [if_neg h1] at h'
      by_cases h2 : (t.f2[j].f5.f3.size : Int) > 1000
      · rw [if_pos h2] at h'; cases h'
      rw [if_neg h2] at h'
      obtain ⟨a, k', hk, b⟩ := gs1 t hc ht i hi k (j + 1) h'
      exact ⟨a, k', by omega, b⟩
    · rw [if_neg hj] at h'
      obtain ⟨a, k', hk, b⟩ := gs2 v ts nx t ht i hi k 0 h'
      refine ⟨fun x hx => ?_, k', by omega, b⟩
      obtain ⟨q, hq, rfl⟩ := List.getElem_of_mem hx
      exact a q hq (by omega)
theorem gs0 (hn : ts.length ≤ 20) : ∀ (k i : Nat), gL0 v ts nx k i = some false → ∀ i' (h : i' < ts.length), i ≤ i' → ts[i'].f2.length ≤ 100 ∧ ts[i'].f3.length ≤ 100 ∧ ∀ x ∈ ts[i'].f3, x.f2.length ≤ 100 := by
  intro k
  induction k using Nat.strongRecOn with
  | _ k ih =>
  intro i h
  match k, h with
  | 0, h => simp [gL0, falseworklaw6_Great.l0] at h
  | k + 1, h =>
    have h' : falseworklaw6_Great.l0 (k + 1) i v ts nx = some false := h
    rw [falseworklaw6_Great.l0] at h'
    by_cases hi : (i : Int) < (ts.length : Int)
    · have hi' : i < ts.length := by omega
      rw [if_pos hi, if_pos (by omega), rd70 _ _ hi'] at h'
      have hj : ∀ b, falseworklaw6_Great.j1 k i b v ts nx ts[i].f0 ts[i].f1 ts[i].f2 ts[i].f3 ts[i].f4 = some false → b = false ∧ ∃ k', k' < k ∧ gL1 v ts nx k' i 0 ts[i] = some false := fun b hb => by
        cases k with
        | zero => simp [falseworklaw6_Great.j1] at hb
        | succ k =>
          rw [falseworklaw6_Great.j1] at hb
          cases b with
          | true => rw [if_pos rfl] at hb; cases hb
          | false => rw [if_neg (by simp)] at hb; exact ⟨rfl, k, by omega, hb⟩
      by_cases h1 : (ts[i].f1.size : Int) > 1000
      · rw [if_pos h1] at h'; exact absurd (hj _ h').1 (by simp)
      rw [if_neg h1] at h'
      by_cases h2 : (ts[i].f2.length : Int) > 50
      · rw [if_pos h2] at h'; exact absurd (hj _ h').1 (by simp)
      rw [if_neg h2] at h'
      obtain ⟨hb, k1, hk1, hl1⟩ := hj _ h'
      have h3 : ts[i].f3.length ≤ 50 := by have := of_decide_eq_false hb; omega
      obtain ⟨a, k2, hk2, hl0⟩ := gs1 v ts nx ts[i] (by omega) h3 i (by omega) k1 0 hl1
      intro i' hi'' hle
      by_cases e : i = i'
      · subst e; exact ⟨by omega, by omega, fun x hx => by have := a x hx; omega⟩
      · exact ih k2 (by omega) (i + 1) hl0 i' hi'' (by omega)
    · intro i' hi' hle
      omega
end
theorem great3_calls (v : Int) (ts : List S70) (nx : Int) : ∃ g : Bool, (g = false → Small ts) ∧ ∀ (A : Option Addr) (c : Nat) (w : World), ts.length ≤ c → k70.C w A ts.length ts →
    Calls Tryd.prog 25 #[.agg #[.int .i64 v, .slice A ts.length c, .int .i64 nx]] w fun e w' => e = .returned (.bool g) ∧ Below w.heap.size w w' := by
  obtain ⟨g, hg⟩ := great_tells v ts nx
  refine ⟨g, fun h => ?_, fun A c w hc h => falseworklaw6_Great.calls 5000 v A c ts nx g w h hc hg⟩
  subst h
  unfold falseworklaw6_Great.f at hg
  by_cases h : (ts.length : Int) > 20
  · rw [if_pos h] at hg; cases hg
  · rw [if_neg h] at hg
    refine ⟨by omega, fun t ht => ?_⟩
    obtain ⟨i, hi, rfl⟩ := List.getElem_of_mem ht
    exact gs0 v ts nx (by omega) 5000 0 hg i hi (by omega)
end Go.Proofs.YtjgomlcdmpcoaaaDoor.H
