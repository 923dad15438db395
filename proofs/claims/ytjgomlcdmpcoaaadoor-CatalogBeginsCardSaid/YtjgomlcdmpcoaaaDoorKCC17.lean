/- Own texts of this session, packed by its program wip/pp/pack.py: lemmas and walks of functions. -/
import Derived.Deep.AppendLies
import Derived.Deep.RegionLaw
import Derived.Deep.RegionHeld3
import Derived.Carry
import Derived.Lib.SmallJoins
import Derived.WideMake
import Derived.Test.YtjgomlcdmpcoaaaDoorKCC11
import Derived.Test.YtjgomlcdmpcoaaaDoorKCC15
import Derived.Test.YtjgomlcdmpcoaaaDoorKCC16
namespace Go.Proofs.YtjgomlcdmpcoaaaDoor.H
open Go.RowKit Go.Proofs.YtjgomlcdmpcoaaaDoorW.PrintWords Go.Proofs.YtjgomlcdmpcoaaaDoorW.PrintLast Go.Proofs.YtjgomlcdmpcoaaaDoorW.PrintMore
open Go.Proofs.YtjgomlcdmpcoaaaDoor.D Go.Proofs.YtjgomlcdmpcoaaaDoor
set_option linter.unusedVariables false
set_option linter.unusedSimpArgs false
structure Tch (B : Nat) (W W' : World) : Prop where
  below : Below B W W'
  keep : ∀ (k : Nat) (cs : Array Value) (q : TypeId) (fr : Nat × Nat), W.heap[k]? = some (.cells cs q fr) → q ≠ 70 → q ≠ 75 → q ≠ 98 → W'.heap[k]? = W.heap[k]?
section
variable {B : Nat} {W W1 W2 : World}
theorem Tch.refl (B : Nat) (W : World) : Tch B W W := ⟨Below.refl _ _, fun _ _ _ _ _ _ _ _ => rfl⟩
theorem Tch.size (h : Tch B W W1) : W.heap.size ≤ W1.heap.size := h.below.size
theorem Tch.trans (h : Tch B W W1) (k : Tch B W1 W2) : Tch B W W2 :=
  ⟨h.below.trans k.below, fun j cs q fr hj h1 h2 h3 => (k.keep j cs q fr ((h.keep j cs q fr hj h1 h2 h3).trans hj) h1 h2 h3).trans (h.keep j cs q fr hj h1 h2 h3)⟩
theorem Tch.of_below (hb : Below W.heap.size W W1) (hB : B ≤ W.heap.size) : Tch B W W1 := ⟨hb.mono hB, fun k cs q fr hk _ _ _ => hb.block k (blk_lt hk)⟩
theorem Tch.of_grown {row : Option Nat} (hg : W.grownBy W1 row) (hB : B ≤ W.heap.size) (hr : ∀ k, row = some k → B ≤ k ∧ ∃ cs q, W.heap[k]? = some (.cells cs q (0, 0)) ∧ (q = 70 ∨ q = 75 ∨ q = 98)) : Tch B W W1 :=
  ⟨⟨hg.os, hg.tape, hg.output, hg.size, fun k hk => hg.block k (by omega) (fun e => by have := (hr k e.symm).1; omega)⟩, fun k cs q fr hk h1 h2 h3 => hg.block k (blk_lt hk) (fun e => by
    obtain ⟨_, cs', q', hk', hq⟩ := hr k e.symm
    rw [hk] at hk'
    injection hk' with e1
    injection e1 with _ e1 _
    rcases hq with hq | hq | hq
    · exact h1 (e1.trans hq)
    · exact h2 (e1.trans hq)
    · exact h3 (e1.trans hq))⟩
theorem Tch.of_set {g j t : Nat} {cs : Array Value} (hx : W.heap[g]? = some (.cells cs t (0, 0))) (ht : t = 70 ∨ t = 75 ∨ t = 98) (hB : B ≤ g) (u : Value) : Tch B W (W.setCell ⟨g, j, none⟩ u) :=
  ⟨(Below.refl _ _).setCell hB _, fun k cs' q fr hk h1 h2 h3 => Below.heap_setCell _ _ _ _ (fun e => by
    have e' : k = g := e
    subst e'
    rw [hx] at hk
    injection hk with e1
    injection e1 with _ e1 _
    rcases ht with ht | ht | ht
    · exact h1 (e1.symm.trans ht)
    · exact h2 (e1.symm.trans ht)
    · exact h3 (e1.symm.trans ht))⟩
theorem Tch.box (h : Tch B W W1) {k : Nat} {cs : Array Value} {q : TypeId} (hk : W.heap[k]? = some (.cells cs q (0, 0))) (h1 : q ≠ 70 := by decide) (h2 : q ≠ 75 := by decide) (h3 : q ≠ 98 := by decide) : W1.heap[k]? = some (.cells cs q (0, 0)) := (h.keep k cs q _ hk h1 h2 h3).trans hk
end
structure Lent (W : World) (B g n cap : Nat) (ts : List S70) (i : Nat) (oki : Nat → Prop) (t : S70) (cv iv : Value) : Prop where
  hole : Kd.H k70 70 W B (fun _ => True) (.slice (some ⟨g, 0, none⟩) n cap) ts (i : Int) oki [.int .i64 t.f0, .string t.f1, cv, iv, .int .i64 t.f4]
  lt : i < n
  cols : k75.R 75 W B oki cv t.f2
  inds : k98.R 98 W B oki iv t.f3
  fresh : ∀ k, W.heap.size ≤ k → oki k
section
variable {W W1 : World} {B g n cap : Nat} {ts : List S70} {i : Nat} {oki : Nat → Prop} {t t' : S70} {cv iv cv1 iv1 : Value}
theorem lend (h : Kd.S k70 70 W B (fun _ => True) (.slice (some ⟨g, 0, none⟩) n cap) ts) (hi : i < ts.length) : ∃ oki cv iv, Lent W B g n cap ts i oki ts[i] cv iv := by
  have hn := (Kd.S_reads' h).1
  obtain ⟨oki, c, hcl, hM, hcc, hoki, hH⟩ := Kd.S_lend h z70 (i : Int) (by omega) (by omega)
  rw [show ts.getD ((i : Int).toNat) z70 = ts[i] by simp [List.getD, hi]] at hM
  obtain ⟨cv, iv, rfl, h1, h2⟩ := k70_openM hM
  exact ⟨_, cv, iv, Kd.H_widen hH, by omega, Kd.R_mono h1 (fun k hk => .inl hk), Kd.R_mono h2 (fun k hk => .inl hk), fun k hk => .inr ⟨trivial, hk⟩⟩
theorem Lent.back (h : Lent W B g n cap ts i oki t cv iv) : Kd.S k70 70 W B (fun _ => True) (.slice (some ⟨g, 0, none⟩) n cap) (ts.set i t) := by
  have := Kd.H_back h.hole (k70_mkM W B oki t h.cols h.inds) (fun _ hk => hk)
  exact this
theorem Lent.step (h : Lent W B g n cap ts i oki t cv iv) (hb : Below W.heap.size W W1) : Lent W1 B g n cap ts i oki t cv iv :=
  ⟨Kd.H_below h.hole hb, h.lt, Kd.R_below h.cols hb, Kd.R_below h.inds hb, fun k hk => h.fresh k (Nat.le_trans hb.size hk)⟩
theorem Lent.blk (h : Lent W B g n cap ts i oki t cv iv) : ∃ cs, W.heap[g]? = some (.cells cs 70 (0, 0)) := by
  obtain ⟨_, f, hR⟩ := h.hole
  exact Kd.R_typed hR g (by simp [Value.ownBlock])
theorem Lent.base (h : Lent W B g n cap ts i oki t cv iv) : B ≤ g := by
  obtain ⟨_, f, hR⟩ := h.hole
  exact Kd.R_base hR g (by simp [Value.ownBlock])
theorem Lent.frozen (h : Lent W B g n cap ts i oki t cv iv) (j : Nat) : W.frozen? ⟨g, j, none⟩ = false := by
  obtain ⟨cs, hx⟩ := h.blk
  exact blk_frozen hx j
theorem Lent.cell (h : Lent W B g n cap ts i oki t cv iv) (j : Nat) {u : Value} (hu : [Value.int .i64 t.f0, .string t.f1, cv, iv, .int .i64 t.f4][j]? = some u) : W.cell? ⟨g, i * 5 + j, none⟩ = some u := by
  obtain ⟨rows, _, _, _, _, hcc, _⟩ := Kd.H_raw h.hole (by omega) (by have := h.lt; omega)
  exact hcc j u hu
theorem Lent.grown (h : Lent W B g n cap ts i oki t cv iv) {row : Option Nat} (hg : W.grownBy W1 row) (hrow : ∀ k, row = some k → oki k) :
    Kd.H k70 70 W1 B (fun _ => True) (.slice (some ⟨g, 0, none⟩) n cap) ts (i : Int) oki [.int .i64 t.f0, .string t.f1, cv, iv, .int .i64 t.f4] := Kd.H_grown h.hole hg hrow
theorem hole_set {c c' : List Value} (h : Kd.H k70 70 W B (fun _ => True) (.slice (some ⟨g, 0, none⟩) n cap) ts (i : Int) oki c) (hi : i < n) (j : Nat) (u : Value) (hj : j < 5) (hu : u.oneCell' = true) (hc : c.take j ++ [u] ++ c.drop (j + 1) = c') :
    Kd.H k70 70 (W.setCell ⟨g, i * 5 + j, none⟩ u) B (fun _ => True) (.slice (some ⟨g, 0, none⟩) n cap) ts (i : Int) oki c' := by
  have := (Kd.H_seg h (by omega) (by omega) (seg := [u]) (j := j) (by show j + 1 ≤ 5; omega) (fun q hq => by rw [List.mem_singleton.1 hq]; exact hu)).1
  rw [← hc]
  exact this
theorem Lent.oki_ne (h : Lent W B g n cap ts i oki t cv iv) : ∀ k, oki k → k ≠ g := by
  obtain ⟨ho, f, hR⟩ := h.hole
  intro k hk he
  subst he
  exact (hR.1 k (by simp [Value.ownBlock])).2 hk
theorem Lent.setN (h : Lent W B g n cap ts i oki t cv iv) (x : Int) (ht : (⟨t.f0, t.f1, t.f2, t.f3, x⟩ : S70) = t') : Lent (W.setCell ⟨g, i * 5 + 4, none⟩ (.int .i64 x)) B g n cap ts i oki t' cv iv := by
  subst ht
  obtain ⟨cs, hx⟩ := h.blk
  exact ⟨hole_set h.hole h.lt 4 _ (by omega) rfl rfl, h.lt, Kd.R_set h.cols hx (by decide) _ _, Kd.R_set h.inds hx (by decide) _ _, fun k hk => h.fresh k (by simpa [World.setCell] using hk)⟩
theorem Lent.setI (h : Lent W B g n cap ts i oki t cv iv) {xs : List S98} (hg : W.grownBy W1 iv.ownBlock) (hi : k98.R 98 W1 B oki iv1 xs) (ht : (⟨t.f0, t.f1, t.f2, xs, t.f4⟩ : S70) = t') :
    Lent (W1.setCell ⟨g, i * 5 + 3, none⟩ iv1) B g n cap ts i oki t' cv iv1 := by
  subst ht
  have h1 := h.grown hg (fun k hk => h.inds.1 k hk)
  obtain ⟨cs, hx⟩ := h.blk
  have hx1 := blk_grown hx hg (fun e => h.oki_ne g (h.inds.1 g e.symm) rfl)
  have hc : k75.R 75 W1 B oki cv t.f2 := Kd.R_over' h.cols (Kd.R_typed h.inds) (by decide) hg
  exact ⟨hole_set h1 h.lt 3 _ (by omega) (Kd.R_val hi).2 rfl, h.lt, Kd.R_set hc hx1 (by decide) _ _, Kd.R_set hi hx1 (by decide) _ _, fun k hk => h.fresh k (Nat.le_trans hg.size (by simpa [World.setCell] using hk))⟩
theorem Lent.setC (h : Lent W B g n cap ts i oki t cv iv) {xs : List S75} (hg : W.grownBy W1 cv.ownBlock) (hi : k75.R 75 W1 B oki cv1 xs) (ht : (⟨t.f0, t.f1, xs, t.f3, t.f4⟩ : S70) = t') :
    Lent (W1.setCell ⟨g, i * 5 + 2, none⟩ cv1) B g n cap ts i oki t' cv1 iv := by
  subst ht
  have h1 := h.grown hg (fun k hk => h.cols.1 k hk)
  obtain ⟨cs, hx⟩ := h.blk
  have hx1 := blk_grown hx hg (fun e => h.oki_ne g (h.cols.1 g e.symm) rfl)
  have hc : k98.R 98 W1 B oki iv t.f3 := Kd.R_over' h.inds (Kd.R_typed h.cols) (by decide) hg
  exact ⟨hole_set h1 h.lt 2 _ (by omega) (Kd.R_val hi).2 rfl, h.lt, Kd.R_set hi hx1 (by decide) _ _, Kd.R_set hc hx1 (by decide) _ _, fun k hk => h.fresh k (Nat.le_trans hg.size (by simpa [World.setCell] using hk))⟩
end
section
variable {P : Program} {ops : Array Oper} {o : Oper} {a : Act} {W : World} {K : Act → World → Prop} {Q : Exit → Act → World → Prop} {E : Prop} {α : Type}
theorem step_R (d : Kd α) (hgd : o.guard = none) (s x : Operand) (t e : TypeId) (z : Value) (bytes : Nat) (ho : o.op = .call { callee := .builtin .append, args := #[s, x], argTypes := #[t, t] })
    (ht : P.underlying t = some (.slice e)) (hinfo : (P.info? e).map (fun i => (i.zero, i.size, i.bytes)) = some (some z, d.sz, bytes)) (hz : z.cells.size = d.sz) (hs0 : 0 < d.sz) (hb0 : 0 < bytes)
    (base : Nat) (v : Value) (xs : List α) (p : α) (cs : List Value) (ok okp : Nat → Prop) (hs : a.eval s = v) (HO : d.R e W base ok v xs) (ad : Addr) (hx : a.eval x = .slice (some ad) 1 1) (hnews : ∀ j u, cs[j]? = some u → W.cell? (ad.add j) = some u)
    (hp : d.M W base okp p cs) (hokp : ∀ k, okp k → ok k ∧ some k ≠ v.ownBlock) (hfresh : ∀ k, W.heap.size ≤ k → ok k) (hbase : base ≤ W.heap.size) (hl : (xs.length + 1) * bytes ≤ 140737488355328)
    (h : ∀ A c w1, d.R e w1 base ok (.slice A (xs.length + 1) c) (xs ++ [p]) → W.grownBy w1 v.ownBlock → K (a.put o.dst (.slice A (xs.length + 1) c)) w1) : if Region.wanted o (yielded ops a.tmps) = true then Oper.wp P o a W K Q else E := by
  obtain ⟨i0, hi, hzz⟩ := Option.map_eq_some_iff.1 hinfo
  simp only [Prod.mk.injEq] at hzz
  obtain ⟨hz0, hz1, hz2⟩ := hzz
  obtain ⟨h0, inner, hown, hr⟩ := HO
  have hlen : xs.length + 1 ≤ 140737488355328 := Nat.le_trans (Nat.le_mul_of_pos_right _ hb0) hl
  refine step_append_lies W hgd s x t ho base e i0 z d.sz bytes ht hi hz0 hz1 hz2 hz hs0 v xs.length inner hs hown ad 1 1 cs hx (by rw [Nat.one_mul]; exact d.K_len (d.K_of_M hp)) hnews (d.K_one (d.K_of_M hp)) (by decide) (by unfold maxLen; omega) hl hbase W.heap.size rfl ?_
  intro g cap w1 hown1 hg1 hat _
  refine h (some ⟨g, 0, none⟩) cap w1 (Kd.R_appended h0 hr hp hokp hfresh hown1 hg1 ?_) hg1
  rcases hat with hat | hat
  · exact .inl (by rw [hat]; simp [Value.ownBlock])
  · exact .inr ⟨g, by simp [Value.ownBlock], by omega⟩
end
theorem at_str {w : World} {A : Option Addr} {n : Nat} {l : List ByteArray} (h : Kd.string.C w A n l) (j : Nat) (hj : j < l.length) : ∃ ad, A = some ad ∧ w.cell? (ad.add j) = some (.string l[j]) := by
  have hn := h.1
  obtain ⟨ad, e, hc⟩ := h.2.2 (by omega)
  obtain ⟨c, _, hK, hcell⟩ := hc j _ (List.getElem?_eq_getElem hj)
  refine ⟨ad, e, ?_⟩
  have h1 : c = [.string l[j]] := hK
  have := hcell 0 (.string l[j]) (by rw [h1]; rfl)
  rwa [show Kd.string.sz = 1 from rfl, Nat.mul_one, Nat.add_zero] at this
theorem at_int {w : World} {A : Option Addr} {n : Nat} {l : List Int} (h : (Kd.int .i64).C w A n l) (j : Nat) (hj : j < l.length) : ∃ ad, A = some ad ∧ w.cell? (ad.add j) = some (.int .i64 l[j]) := by
  have hn := h.1
  obtain ⟨ad, e, hc⟩ := h.2.2 (by omega)
  obtain ⟨c, _, hK, hcell⟩ := hc j _ (List.getElem?_eq_getElem hj)
  refine ⟨ad, e, ?_⟩
  have h1 : c = [.int .i64 l[j]] := hK
  have := hcell 0 (.int .i64 l[j]) (by rw [h1]; rfl)
  rwa [show (Kd.int .i64).sz = 1 from rfl, Nat.mul_one, Nat.add_zero] at this
end Go.Proofs.YtjgomlcdmpcoaaaDoor.H
namespace Go.Proofs.YtjgomlcdmpcoaaaDoor.H
open Go.RowKit Go.Proofs.YtjgomlcdmpcoaaaDoorW.PrintWords Go.Proofs.YtjgomlcdmpcoaaaDoorW.PrintLast Go.Proofs.YtjgomlcdmpcoaaaDoorW.PrintMore
open Go.Proofs.YtjgomlcdmpcoaaaDoor.D Go.Proofs.YtjgomlcdmpcoaaaDoor
set_option linter.unusedVariables false
set_option linter.unusedSimpArgs false
theorem nil_C {α : Type} (d : Kd α) (w : World) : Kd.C d w none 0 [] := ⟨rfl, Nat.zero_le _, fun h => absurd h (by omega)⟩
end Go.Proofs.YtjgomlcdmpcoaaaDoor.H
namespace Go.Proofs.YtjgomlcdmpcoaaaDoor.H
open Go.RowKit Go.Proofs.YtjgomlcdmpcoaaaDoorW.PrintWords Go.Proofs.YtjgomlcdmpcoaaaDoorW.PrintLast Go.Proofs.YtjgomlcdmpcoaaaDoorW.PrintMore
open Go.Proofs.YtjgomlcdmpcoaaaDoor.D Go.Proofs.YtjgomlcdmpcoaaaDoor
set_option linter.unusedVariables false
theorem rname_calls (s : ByteArray) (w : World) : Calls Tryd.prog 34 #[.string s] w fun e w' => e = .returned (.bool (nameB s)) ∧ Below w.heap.size w w' :=
  (falseworkref6_Name.calls 101 s (nameB s) w (ref_name s 101 (by decide))).mono fun e w' h => ⟨h.1, by first | exact h.2 | exact h.2.below⟩
end Go.Proofs.YtjgomlcdmpcoaaaDoor.H
namespace Go.Proofs.YtjgomlcdmpcoaaaDoor.H
open Go.RowKit Go.Proofs.YtjgomlcdmpcoaaaDoorW.PrintWords Go.Proofs.YtjgomlcdmpcoaaaDoorW.PrintLast Go.Proofs.YtjgomlcdmpcoaaaDoorW.PrintMore
open Go.Proofs.YtjgomlcdmpcoaaaDoor.D Go.Proofs.YtjgomlcdmpcoaaaDoor
set_option linter.unusedVariables false
set_option linter.unusedSimpArgs false
def StmtOk (s : S45) : Prop := s.f3.length ≤ 100 ∧ s.f4.length ≤ 100 ∧ s.f9.length ≤ 100 ∧ s.f2.size ≤ maxLen ∧ s.f1.size ≤ maxLen ∧ ∀ x ∈ s.f4, ValWf x
def Upd (F : Nat) (f : S70 → S45 → S70 × Int × Int) : Prop :=
  ∀ (w0 W : World) (g n cap : Nat) (ts : List S70) (i : Nat) (oki : Nat → Prop) (t : S70) (cv iv : Value) (s : S45) (cs : List Value), Below w0.heap.size w0 W → Lent W w0.heap.size g n cap ts i oki t cv iv → tableB t = true → k45.K w0 s cs → StmtOk s →
    Calls Tryd.prog F #[.pointer (some ⟨g, i * 5, none⟩), .agg cs.toArray] W fun e W' => e = .returned (.tuple #[.int .i64 (f t s).2.1, .int .i64 (f t s).2.2]) ∧ Kd.S k70 70 W' w0.heap.size (fun _ => True) (.slice (some ⟨g, 0, none⟩) n cap) (ts.set i (f t s).1) ∧ Tch w0.heap.size W W'
structure UpdSt (w0 W0 W : World) (g n cap : Nat) (ts : List S70) (i : Nat) (oki : Nat → Prop) (t : S70) (cv iv : Value) : Prop where
  lent : Lent W w0.heap.size g n cap ts i oki t cv iv
  tch : Tch w0.heap.size W0 W
  base : w0.heap.size ≤ W0.heap.size
theorem UpdSt.step {w0 W0 W W1 : World} {g n cap : Nat} {ts : List S70} {i : Nat} {oki : Nat → Prop} {t : S70} {cv iv : Value} (h : UpdSt w0 W0 W g n cap ts i oki t cv iv) (hb : Below W.heap.size W W1) : UpdSt w0 W0 W1 g n cap ts i oki t cv iv :=
  ⟨h.lent.step hb, h.tch.trans (Tch.of_below hb (Nat.le_trans h.base h.tch.size)), h.base⟩
theorem UpdSt.done {w0 W0 W : World} {g n cap : Nat} {ts : List S70} {i : Nat} {oki : Nat → Prop} {t : S70} {cv iv : Value} (h : UpdSt w0 W0 W g n cap ts i oki t cv iv) : Kd.S k70 70 W w0.heap.size (fun _ => True) (.slice (some ⟨g, 0, none⟩) n cap) (ts.set i t) ∧ Tch w0.heap.size W0 W := ⟨h.lent.back, h.tch⟩
section
variable {w0 W0 W W1 : World} {g n cap : Nat} {ts : List S70} {i : Nat} {oki : Nat → Prop} {t t' : S70} {cv iv cv1 iv1 : Value}
theorem UpdSt.setN (h : UpdSt w0 W0 W g n cap ts i oki t cv iv) (x : Int) (ht : (⟨t.f0, t.f1, t.f2, t.f3, x⟩ : S70) = t') : UpdSt w0 W0 (W.setCell ⟨g, i * 5 + 4, none⟩ (.int .i64 x)) g n cap ts i oki t' cv iv := by
  obtain ⟨cs, hx⟩ := h.lent.blk
  exact ⟨h.lent.setN x ht, h.tch.trans (Tch.of_set hx (.inl rfl) h.lent.base _), h.base⟩
theorem UpdSt.setI (h : UpdSt w0 W0 W g n cap ts i oki t cv iv) {xs : List S98} (hg : W.grownBy W1 iv.ownBlock) (hi : k98.R 98 W1 w0.heap.size oki iv1 xs) (ht : (⟨t.f0, t.f1, t.f2, xs, t.f4⟩ : S70) = t') :
    UpdSt w0 W0 (W1.setCell ⟨g, i * 5 + 3, none⟩ iv1) g n cap ts i oki t' cv iv1 := by
  have h1 : Tch w0.heap.size W W1 := Tch.of_grown hg (Nat.le_trans h.base h.tch.size) (fun k hk => ⟨Kd.R_base h.lent.inds k hk, by obtain ⟨c, hc⟩ := Kd.R_typed h.lent.inds k hk; exact ⟨c, 98, hc, .inr (.inr rfl)⟩⟩)
  obtain ⟨cs, hx⟩ := h.lent.blk
  have hx1 := blk_grown hx hg (fun e => h.lent.oki_ne g (h.lent.inds.1 g e.symm) rfl)
  exact ⟨h.lent.setI hg hi ht, (h.tch.trans h1).trans (Tch.of_set hx1 (.inl rfl) h.lent.base _), h.base⟩
theorem UpdSt.setC (h : UpdSt w0 W0 W g n cap ts i oki t cv iv) {xs : List S75} (hg : W.grownBy W1 cv.ownBlock) (hi : k75.R 75 W1 w0.heap.size oki cv1 xs) (ht : (⟨t.f0, t.f1, xs, t.f3, t.f4⟩ : S70) = t') :
    UpdSt w0 W0 (W1.setCell ⟨g, i * 5 + 2, none⟩ cv1) g n cap ts i oki t' cv1 iv := by
  have h1 : Tch w0.heap.size W W1 := Tch.of_grown hg (Nat.le_trans h.base h.tch.size) (fun k hk => ⟨Kd.R_base h.lent.cols k hk, by obtain ⟨c, hc⟩ := Kd.R_typed h.lent.cols k hk; exact ⟨c, 75, hc, .inr (.inl rfl)⟩⟩)
  obtain ⟨cs, hx⟩ := h.lent.blk
  have hx1 := blk_grown hx hg (fun e => h.lent.oki_ne g (h.lent.cols.1 g e.symm) rfl)
  exact ⟨h.lent.setC hg hi ht, (h.tch.trans h1).trans (Tch.of_set hx1 (.inl rfl) h.lent.base _), h.base⟩
end
theorem cell_same {w W : World} {a : Addr} (h : w.heap[a.block]? = W.heap[a.block]?) : w.cell? a = W.cell? a := by simp [World.cell?, h]
theorem frozen_same {w W : World} {a : Addr} (h : w.heap[a.block]? = W.heap[a.block]?) : w.frozen? a = W.frozen? a := by simp [World.frozen?, h]
theorem rshown_calls (l : List S75) (hl : l.length < 1000) (n : ByteArray) (A : Option Addr) (c : Nat) (w : World) (hc : l.length ≤ c) (g : k75.C w A l.length l) : Calls Tryd.prog 117 #[.slice A l.length c, .string n] w fun e w' => e = .returned (.int .i64 (idxL (cShown n) l 0)) ∧ ∃ k, w' = w.drewN k := by
  have h := shown_run n l (by omega) l.length 1001 0 (by omega) (by omega)
  rw [List.drop_zero] at h
  exact (falseworkref18_Shown.calls 1001 A c l n _ w g hc h).mono fun e w' h => ⟨h.1, h.2.out⟩
theorem rtwice_calls (l : List ByteArray) (hl : l.length < 100) (A : Option Addr) (c : Nat) (w : World) (hc : l.length ≤ c) (g : Kd.string.C w A l.length l) : Calls Tryd.prog 61 #[.slice A l.length c] w fun e w' => e = .returned (.bool (twiceB [] l)) ∧ Below w.heap.size w w' := by
  have h := twice_run l hl l.length 30000 0 (by omega) (by omega)
  rw [List.take_zero, List.drop_zero] at h
  exact (falseworkref18_twice.calls 30000 A c l _ w g hc h).mono fun e w' h => ⟨h.1, by first | exact h.2 | exact h.2.below⟩
end Go.Proofs.YtjgomlcdmpcoaaaDoor.H
namespace Go.Proofs.YtjgomlcdmpcoaaaDoor.H
open Go.RowKit Go.Proofs.YtjgomlcdmpcoaaaDoorW.PrintWords Go.Proofs.YtjgomlcdmpcoaaaDoorW.PrintLast Go.Proofs.YtjgomlcdmpcoaaaDoorW.PrintMore
open Go.Proofs.YtjgomlcdmpcoaaaDoor.D Go.Proofs.YtjgomlcdmpcoaaaDoor
set_option linter.unusedVariables false
theorem cells132 : Tryd.prog.cellsOf 132 = 6 := by kernel_rfl
theorem cells134 : Tryd.prog.cellsOf 134 = 6 := by kernel_rfl
theorem cells45 : Tryd.prog.cellsOf 45 = 10 := by kernel_rfl
theorem cells39 : Tryd.prog.cellsOf 39 = 1 := by kernel_rfl
theorem cells41 : Tryd.prog.cellsOf 41 = 1 := by kernel_rfl
theorem cells42 : Tryd.prog.cellsOf 42 = 1 := by kernel_rfl
theorem cells43 : Tryd.prog.cellsOf 43 = 1 := by kernel_rfl
set_option maxRecDepth 100000 in
theorem opens132 : Opens k132 132 (fun _ => True) := by
  intro H enc W base spare held fuel cs x h
  obtain ⟨hl, hf⟩ := struct_get Tryd.underlying132 h
  rw [cells132] at hl
  obtain ⟨c0, c1, c2, c3, c4, c5, rfl⟩ : ∃ c0 c1 c2 c3 c4 c5, cs = [c0, c1, c2, c3, c4, c5] := by
    match cs, hl with
    | [c0, c1, c2, c3, c4, c5], _ => exact ⟨c0, c1, c2, c3, c4, c5, rfl⟩
  obtain ⟨y0, n0, h0⟩ := hf 0 9 0 1 rfl cells9
  obtain ⟨x0, hx0, w0⟩ := (opens_string Tryd.underlying9) H enc W base spare held n0 [c0] y0 h0
  obtain ⟨y1, n1, h1⟩ := hf 1 4 1 1 rfl cells4
  obtain ⟨x1, hx1, w1⟩ := (opens_bool Tryd.underlying4) H enc W base spare held n1 [c1] y1 h1
  obtain ⟨y2, n2, h2⟩ := hf 2 73 2 4 rfl cells73
  obtain ⟨x2, hx2, w2⟩ := opens73 H enc W base spare held n2 [c2, c3, c4, c5] y2 h2
  injection hx0 with e0
  injection hx1 with e1
  have e2 := k73_open hx2
  subst e0 e1
  refine ⟨⟨x0, x1, x2⟩, ?_, trivial⟩
  have := k132_mk W ⟨x0, x1, x2⟩
  rw [e2]
  exact this
set_option maxRecDepth 100000 in
theorem opens134 : Opens k134 134 (fun _ => True) := by
  intro H enc W base spare held fuel cs x h
  obtain ⟨hl, hf⟩ := struct_get Tryd.underlying134 h
  rw [cells134] at hl
  obtain ⟨c0, c1, c2, c3, c4, c5, rfl⟩ : ∃ c0 c1 c2 c3 c4 c5, cs = [c0, c1, c2, c3, c4, c5] := by
    match cs, hl with
    | [c0, c1, c2, c3, c4, c5], _ => exact ⟨c0, c1, c2, c3, c4, c5, rfl⟩
  obtain ⟨y0, n0, h0⟩ := hf 0 9 0 1 rfl cells9
  obtain ⟨x0, hx0, w0⟩ := (opens_string Tryd.underlying9) H enc W base spare held n0 [c0] y0 h0
  obtain ⟨y1, n1, h1⟩ := hf 1 3 1 1 rfl cells3
  obtain ⟨x1, hx1, w1⟩ := (opens_int Tryd.underlying3) H enc W base spare held n1 [c1] y1 h1
  obtain ⟨y2, n2, h2⟩ := hf 2 73 2 4 rfl cells73
  obtain ⟨x2, hx2, w2⟩ := opens73 H enc W base spare held n2 [c2, c3, c4, c5] y2 h2
  injection hx0 with e0
  injection hx1 with e1
  have e2 := k73_open hx2
  subst e0 e1
  refine ⟨⟨x0, x1, x2⟩, ?_, trivial⟩
  have := k134_mk W ⟨x0, x1, x2⟩
  rw [e2]
  exact this
theorem opens39 : Opens (Kd.slice 9 Kd.string) 39 (fun _ => True) := (opens_slice Tryd.underlying39 (opens_string Tryd.underlying9) cells9).weak (fun _ _ => trivial)
theorem opens41 : Opens (Kd.slice 73 k73) 41 (fun l => ∀ x ∈ l, ValWf x) := opens_slice Tryd.underlying41 opens73 cells73
theorem opens42 : Opens (Kd.slice 132 k132) 42 (fun _ => True) := (opens_slice Tryd.underlying42 opens132 cells132).weak (fun _ _ => trivial)
theorem opens43 : Opens (Kd.slice 134 k134) 43 (fun _ => True) := (opens_slice Tryd.underlying43 opens134 cells134).weak (fun _ _ => trivial)
def StmtWf (s : S45) : Prop := s.f1.size ≤ maxLen ∧ s.f2.size ≤ maxLen ∧ ∀ x ∈ s.f4, ValWf x
set_option maxRecDepth 100000 in
theorem opens45 : Opens k45 45 StmtWf := by
  intro H enc W base spare held fuel cs x h
  obtain ⟨hl, hf⟩ := struct_get Tryd.underlying45 h
  rw [cells45] at hl
  obtain ⟨c0, c1, c2, c3, c4, c5, c6, c7, c8, c9, rfl⟩ : ∃ c0 c1 c2 c3 c4 c5 c6 c7 c8 c9, cs = [c0, c1, c2, c3, c4, c5, c6, c7, c8, c9] := by
    match cs, hl with
    | [c0, c1, c2, c3, c4, c5, c6, c7, c8, c9], _ => exact ⟨c0, c1, c2, c3, c4, c5, c6, c7, c8, c9, rfl⟩
  obtain ⟨y0, n0, h0⟩ := hf 0 3 0 1 rfl cells3
  obtain ⟨x0, hx0, w0⟩ := (opens_int Tryd.underlying3) H enc W base spare held n0 [c0] y0 h0
  obtain ⟨y1, n1, h1⟩ := hf 1 9 1 1 rfl cells9
  obtain ⟨x1, hx1, w1⟩ := (opens_string Tryd.underlying9) H enc W base spare held n1 [c1] y1 h1
  obtain ⟨y2, n2, h2⟩ := hf 2 9 2 1 rfl cells9
  obtain ⟨x2, hx2, w2⟩ := (opens_string Tryd.underlying9) H enc W base spare held n2 [c2] y2 h2
  obtain ⟨y3, n3, h3⟩ := hf 3 39 3 1 rfl cells39
  obtain ⟨x3, hx3, w3⟩ := opens39 H enc W base spare held n3 [c3] y3 h3
  obtain ⟨y4, n4, h4⟩ := hf 4 41 4 1 rfl cells41
  obtain ⟨x4, hx4, w4⟩ := opens41 H enc W base spare held n4 [c4] y4 h4
  obtain ⟨y5, n5, h5⟩ := hf 5 42 5 1 rfl cells42
  obtain ⟨x5, hx5, w5⟩ := opens42 H enc W base spare held n5 [c5] y5 h5
  obtain ⟨y6, n6, h6⟩ := hf 6 43 6 1 rfl cells43
  obtain ⟨x6, hx6, w6⟩ := opens43 H enc W base spare held n6 [c6] y6 h6
  obtain ⟨y7, n7, h7⟩ := hf 7 4 7 1 rfl cells4
  obtain ⟨x7, hx7, w7⟩ := (opens_bool Tryd.underlying4) H enc W base spare held n7 [c7] y7 h7
  obtain ⟨y8, n8, h8⟩ := hf 8 3 8 1 rfl cells3
  obtain ⟨x8, hx8, w8⟩ := (opens_int Tryd.underlying3) H enc W base spare held n8 [c8] y8 h8
  obtain ⟨y9, n9, h9⟩ := hf 9 40 9 1 rfl cells40
  obtain ⟨x9, hx9, w9⟩ := opens40 H enc W base spare held n9 [c9] y9 h9
  injection hx0 with e0
  injection hx1 with e1
  injection hx2 with e2
  injection hx7 with e7
  injection hx8 with e8
  obtain ⟨A3, d3, e3, l3, g3⟩ := hx3
  injection e3 with e3
  obtain ⟨A4, d4, e4, l4, g4⟩ := hx4
  injection e4 with e4
  obtain ⟨A5, d5, e5, l5, g5⟩ := hx5
  injection e5 with e5
  obtain ⟨A6, d6, e6, l6, g6⟩ := hx6
  injection e6 with e6
  obtain ⟨A9, d9, e9, l9, g9⟩ := hx9
  injection e9 with e9
  subst e0 e1 e2 e3 e4 e5 e6 e7 e8 e9
  exact ⟨⟨x0, x1, x2, x3, x4, x5, x6, x7, x8, x9⟩, k45_mk W ⟨x0, x1, x2, x3, x4, x5, x6, x7, x8, x9⟩ l3 g3 l4 g4 l5 g5 l6 g6 l9 g9, w1, w2, w4⟩
section
open Go.ChangeShapes
variable {H : Type} {enc : TypeId × Value → H} {P : Program} {w : World} {base : Nat} {spare : Nat → Bool} {held : Bool}
end
end Go.Proofs.YtjgomlcdmpcoaaaDoor.H
namespace Go.Proofs.YtjgomlcdmpcoaaaDoor.H
open Go.RowKit Go.Proofs.YtjgomlcdmpcoaaaDoorW.PrintWords Go.Proofs.YtjgomlcdmpcoaaaDoorW.PrintLast Go.Proofs.YtjgomlcdmpcoaaaDoorW.PrintMore
open Go.Proofs.YtjgomlcdmpcoaaaDoor.D Go.Proofs.YtjgomlcdmpcoaaaDoor
set_option linter.unusedVariables false
set_option linter.unusedSimpArgs false
set_option maxHeartbeats 4000000 in
set_option maxRecDepth 100000 in
theorem idx70 (g : Nat) (lb : Array Value) (eg : ∀ args w, (callFunc g args).run Tryd.prog w = .ok (.enter g args) w) (p : S70 → Bool) (A : Option Addr) (c : Nat) (xs : List S70) (w : World)
    (hA : Kd.C k70 w A xs.length xs) (hp : Pred k70 g lb p w) :
    Calls Tryd.prog 105 #[.slice A xs.length c, .func (.func g) #[] lb] w fun e w' => e = .returned (.int .i64 (idxL p xs 0)) ∧ Below w.heap.size w w' := by
  have HA := Lib.hid hA
  have hbig := hA.2.1
  have HP := Lib.hid hp
  have HE := Lib.hid eg
  clear hA hp eg
  go_enter Tryd.func105, Tryd.ntmps105
  go_wp2
  go_loopg [5, 8] xs.length (fun gg _ s8 wr => ∃ kk : Nat, kk ≤ xs.length ∧ xs.length - kk ≤ gg ∧ s8 = .int .i64 kk ∧ Aside0 (Below w.heap.size w wr) ∧ Aside0 (idxL p xs 0 = idxL p (xs.drop kk) kk))
  case atStart => exact ⟨0, Nat.zero_le _, by omega, rfl, ⟨Below.refl _ w⟩, ⟨rfl⟩⟩
  case round =>
    obtain ⟨kk, hkk, hg, rfl, BW, hI⟩ := hrel
    by_cases hlt : kk < xs.length
    · have hltz : (kk : Int) < (xs.length : Int) := by omega
      have hd : xs.drop kk = xs[kk] :: xs.drop (kk + 1) := List.drop_eq_getElem_cons hlt
      have hC := Kd.C_below HA.out BW.out
      obtain ⟨ad, A2, c2, A3, c3, eA, h0, h1, h2, h3, h4, l2, g2, l3, g3⟩ := at_T70 hC (kk : Int) (by omega) (by omega)
      have hx : rd_T70 xs (kk : Int) = xs[kk] := by unfold rd_T70; simp [List.getD, hlt]
      rw [hx] at h0 h1 h2 h3 h4 l2 g2 l3 g3
      simp only [Int.toNat_natCast] at h0 h1 h2 h3 h4
      have hcall := HP.out wr xs[kk] _ BW.out (k70_mk _ _ l2 g2 l3 g3)
      generalize xs[kk] = x at hd hcall h0 h1 h2 h3 h4 l2 g2 l3 g3
      rw [hd] at hI
      cases eA
      clear g2 g3
      have HI := Lib.hid hI
      clear hI hd hx
      cases hq : p x with
      | true =>
        rw [hq] at hcall
        have HQ := Lib.hid hq
        clear hq
        have HC := Lib.hid hcall
        clear hcall
        go_wp2_with fail
        rw [HE.out, Oper.upon_enter]
        refine HC.out.mono ?_
        rintro e w' ⟨rfl, hb'⟩
        go_wp2
        go_ret
        refine ⟨?_, hb'⟩
        rw [HI.out.out]
        simp [idxL, HQ.out]
      | false =>
        rw [hq] at hcall
        have HQ := Lib.hid hq
        clear hq
        have HC := Lib.hid hcall
        clear hcall
        go_wp2_with fail
        rw [HE.out, Oper.upon_enter]
        refine HC.out.mono ?_
        rintro e w' ⟨rfl, hb'⟩
        go_wp2
        go_roundg (xs.length - (kk + 1))
        case measure => omega
        case rel =>
          refine ⟨kk + 1, by omega, by omega, by go_num, ⟨hb'⟩, ⟨?_⟩⟩
          rw [HI.out.out]
          simp [idxL, HQ.out]
    · have hltz : ¬ (kk : Int) < (xs.length : Int) := by omega
      have hd : xs.drop kk = [] := List.drop_eq_nil_of_le (by omega)
      rw [hd] at hI
      have HI := Lib.hid hI
      clear hI hd
      go_wp2
      go_ret
      refine ⟨?_, BW.out⟩
      rw [HI.out.out]
      rfl
set_option maxHeartbeats 4000000 in
set_option maxRecDepth 100000 in
theorem idx98 (g : Nat) (lb : Array Value) (eg : ∀ args w, (callFunc g args).run Tryd.prog w = .ok (.enter g args) w) (p : S98 → Bool) (A : Option Addr) (c : Nat) (xs : List S98) (w : World)
    (hA : Kd.C k98 w A xs.length xs) (hp : Pred k98 g lb p w) :
    Calls Tryd.prog 168 #[.slice A xs.length c, .func (.func g) #[] lb] w fun e w' => e = .returned (.int .i64 (idxL p xs 0)) ∧ Below w.heap.size w w' := by
  have HA := Lib.hid hA
  have hbig := hA.2.1
  have HP := Lib.hid hp
  have HE := Lib.hid eg
  clear hA hp eg
  go_enter Tryd.func168, Tryd.ntmps168
  go_wp2
  go_loopg [5, 8] xs.length (fun gg _ s8 wr => ∃ kk : Nat, kk ≤ xs.length ∧ xs.length - kk ≤ gg ∧ s8 = .int .i64 kk ∧ Aside0 (Below w.heap.size w wr) ∧ Aside0 (idxL p xs 0 = idxL p (xs.drop kk) kk))
  case atStart => exact ⟨0, Nat.zero_le _, by omega, rfl, ⟨Below.refl _ w⟩, ⟨rfl⟩⟩
  case round =>
    obtain ⟨kk, hkk, hg, rfl, BW, hI⟩ := hrel
    by_cases hlt : kk < xs.length
    · have hltz : (kk : Int) < (xs.length : Int) := by omega
      have hd : xs.drop kk = xs[kk] :: xs.drop (kk + 1) := List.drop_eq_getElem_cons hlt
      have hC := Kd.C_below HA.out BW.out
      obtain ⟨ad, A2, c2, eA, h0, h1, h2, h3, h4, l2, g2⟩ := at_T98 hC (kk : Int) (by omega) (by omega)
      have hx : rd_T98 xs (kk : Int) = xs[kk] := by unfold rd_T98; simp [List.getD, hlt]
      rw [hx] at h0 h1 h2 h3 h4 l2 g2
      simp only [Int.toNat_natCast] at h0 h1 h2 h3 h4
      have hcall := HP.out wr xs[kk] _ BW.out (k98_mk _ _ l2 g2)
      generalize xs[kk] = x at hd hcall h0 h1 h2 h3 h4 l2 g2
      rw [hd] at hI
      cases eA
      clear g2
      have HI := Lib.hid hI
      clear hI hd hx
      cases hq : p x with
      | true =>
        rw [hq] at hcall
        have HQ := Lib.hid hq
        clear hq
        have HC := Lib.hid hcall
        clear hcall
        go_wp2_with fail
        rw [HE.out, Oper.upon_enter]
        refine HC.out.mono ?_
        rintro e w' ⟨rfl, hb'⟩
        go_wp2
        go_ret
        refine ⟨?_, hb'⟩
        rw [HI.out.out]
        simp [idxL, HQ.out]
      | false =>
        rw [hq] at hcall
        have HQ := Lib.hid hq
        clear hq
        have HC := Lib.hid hcall
        clear hcall
        go_wp2_with fail
        rw [HE.out, Oper.upon_enter]
        refine HC.out.mono ?_
        rintro e w' ⟨rfl, hb'⟩
        go_wp2
        go_roundg (xs.length - (kk + 1))
        case measure => omega
        case rel =>
          refine ⟨kk + 1, by omega, by omega, by go_num, ⟨hb'⟩, ⟨?_⟩⟩
          rw [HI.out.out]
          simp [idxL, HQ.out]
    · have hltz : ¬ (kk : Int) < (xs.length : Int) := by omega
      have hd : xs.drop kk = [] := List.drop_eq_nil_of_le (by omega)
      rw [hd] at hI
      have HI := Lib.hid hI
      clear hI hd
      go_wp2
      go_ret
      refine ⟨?_, BW.out⟩
      rw [HI.out.out]
      rfl
set_option maxHeartbeats 1000000 in
theorem pred149 (id : Int) (B : Nat) (w : World) (hB : B < w.heap.size) (hc : w.cell? ⟨B, 0, none⟩ = some (.int .i64 id)) : Pred k70 149 #[.pointer (some ⟨B, 0, none⟩)] (fun c => c.f0 == id) w := by
  intro W x cs hb hK
  obtain ⟨A2, c2, A3, c3, rfl, l2, g2, l3, g3⟩ := k70_open hK
  have hc' := (hb.cell (p := ⟨B, 0, none⟩) hB).trans hc
  have hl : B < W.heap.size := Nat.lt_of_lt_of_le hB hb.size
  show Calls Tryd.prog 149 #[.agg #[.int .i64 x.f0, .string x.f1, .slice A2 x.f2.length c2, .slice A3 x.f3.length c3, .int .i64 x.f4], .pointer (some ⟨B, 0, none⟩)] W _
  have HB := Aside0.mk hb
  clear hb hc hK
  go_enter Tryd.func149, Tryd.ntmps149
  go_wp2
  go_ret
  exact ⟨rfl, below_then HB.out HB.out.size (below_alloc (Below.refl _ _) _)⟩
set_option maxHeartbeats 1000000 in
theorem pred174 (id : Int) (B : Nat) (w : World) (hB : B < w.heap.size) (hc : w.cell? ⟨B, 0, none⟩ = some (.int .i64 id)) : Pred k98 174 #[.pointer (some ⟨B, 0, none⟩)] (fun c => c.f0 == id) w := by
  intro W x cs hb hK
  obtain ⟨A2, c2, rfl, l2, g2⟩ := k98_open hK
  have hc' := (hb.cell (p := ⟨B, 0, none⟩) hB).trans hc
  have hl : B < W.heap.size := Nat.lt_of_lt_of_le hB hb.size
  show Calls Tryd.prog 174 #[.agg #[.int .i64 x.f0, .string x.f1, .slice A2 x.f2.length c2, .bool x.f3, .int .i64 x.f4], .pointer (some ⟨B, 0, none⟩)] W _
  have HB := Aside0.mk hb
  clear hb hc hK
  go_enter Tryd.func174, Tryd.ntmps174
  go_wp2
  go_ret
  exact ⟨rfl, below_then HB.out HB.out.size (below_alloc (Below.refl _ _) _)⟩
set_option maxHeartbeats 1000000 in
theorem pred180 (id : Int) (B : Nat) (w : World) (hB : B < w.heap.size) (hc : w.cell? ⟨B, 0, none⟩ = some (.int .i64 id)) : Pred k75 180 #[.pointer (some ⟨B, 0, none⟩)] (fun c => c.f0 == id) w := by
  intro W x cs hb hK
  obtain rfl := k75_open hK
  have hc' := (hb.cell (p := ⟨B, 0, none⟩) hB).trans hc
  have hl : B < W.heap.size := Nat.lt_of_lt_of_le hB hb.size
  show Calls Tryd.prog 180 #[.agg #[.int .i64 x.f0, .string x.f1, .int .i64 x.f2, .int .i64 x.f3, .int .i64 x.f4, .int .i64 x.f5.f0, .int .i64 x.f5.f1, .int .u64 x.f5.f2, .string x.f5.f3], .pointer (some ⟨B, 0, none⟩)] W _
  have HB := Aside0.mk hb
  clear hb hc hK
  go_enter Tryd.func180, Tryd.ntmps180
  go_wp2
  go_ret
  exact ⟨rfl, below_then HB.out HB.out.size (below_alloc (Below.refl _ _) _)⟩
theorem idxL_same {α : Type} (p q : α → Bool) (h : ∀ x, p x = q x) : ∀ (l : List α) (i : Nat), idxL p l i = idxL q l i
  | [], i => rfl
  | x :: l, i => by rw [idxL_cons, idxL_cons, h x, idxL_same p q h l (i + 1)]
end Go.Proofs.YtjgomlcdmpcoaaaDoor.H
namespace Go.Proofs.YtjgomlcdmpcoaaaDoor.H
open Go.RowKit Go.Proofs.YtjgomlcdmpcoaaaDoorW.PrintWords Go.Proofs.YtjgomlcdmpcoaaaDoorW.PrintLast Go.Proofs.YtjgomlcdmpcoaaaDoorW.PrintMore
open Go.Proofs.YtjgomlcdmpcoaaaDoor.D Go.Proofs.YtjgomlcdmpcoaaaDoor
set_option linter.unusedVariables false
set_option linter.unusedSimpArgs false
theorem run_put {w : World} {mty kt et : TypeId} {r clock : Nat} {es : Array MapEntry} (n : Int) (val : Value) (hm : Tryd.prog.underlying mty = some (.map kt et)) (hk : Tryd.prog.underlying kt = some (.int .i64)) (hb : w.heap[r]? = some (.map es clock))
    (hf : Instr.findNow (.int .i64) (.int .i64 n) es.toList 0 = some none) :
    ∃ w', (Instr.mapUpdate mty (.map (some r)) (.int .i64 n) val).run Tryd.prog w = .ok () w' ∧ w'.heap[r]? = some (.map (es.push { key := .int .i64 n, val := val, born := clock }) (clock + 1)) ∧ w.grownBy w' (some r) := by
  have hc : (Instr.checkKey false 10000 kt (.int .i64 n)).run Tryd.prog w = .ok () w := MapKept.run_checkKey (k := .int .i64 n) hk (by simp [MapKept.IsKey]) false 9999
  have hr : r < w.heap.size := (Array.getElem?_eq_some_iff.1 hb).1
  refine ⟨{ w with heap := w.heap.setIfInBounds r (.map (es.push { key := .int .i64 n, val := val, born := clock }) (clock + 1)) }, ?_, ?_, rfl, rfl, rfl, by simp, fun k hk hne => ?_⟩
  · simp [Instr.mapUpdate, run_underlying hm, MapKept.run_getObj_map hb, hc, MapKept.run_findKey hk hf, MapKept.run_setObj_map _ hb, Result.andThen]
  · simp [hr]
  · have : r ≠ k := fun e => hne (by rw [e])
    simp [this]
theorem run_look {w : World} {mty kt et : TypeId} {r clock i : Nat} {es : Array MapEntry} {n : Int} {val : Value} (hm : Tryd.prog.underlying mty = some (.map kt et)) (hk : Tryd.prog.underlying kt = some (.int .i64)) (hb : w.heap[r]? = some (.map es clock)) (he : es.isEmpty = false)
    (hf : Instr.findNow (.int .i64) (.int .i64 n) es.toList 0 = some (some (i, val))) : (Instr.lookup mty (.map (some r)) (.int .i64 n) false).run Tryd.prog w = .ok val w := by
  have hc : (Instr.checkKey false 10000 kt (.int .i64 n)).run Tryd.prog w = .ok () w := MapKept.run_checkKey (k := .int .i64 n) hk (by simp [MapKept.IsKey]) false 9999
  simp [Instr.lookup, run_underlying hm, MapKept.run_getObj_map hb, he, hc, MapKept.run_findKey hk hf, Result.andThen]
theorem run_miss {w : World} {mty kt et : TypeId} {r clock : Nat} {es : Array MapEntry} {n : Int} {val : Value} (hm : Tryd.prog.underlying mty = some (.map kt et)) (hk : Tryd.prog.underlying kt = some (.int .i64)) (hb : w.heap[r]? = some (.map es clock)) (he : es.isEmpty = false)
    (hf : Instr.findNow (.int .i64) (.int .i64 n) es.toList 0 = some none) (hz : (zeroValue et).run Tryd.prog w = .ok val w) : (Instr.lookup mty (.map (some r)) (.int .i64 n) false).run Tryd.prog w = .ok val w := by
  have hc : (Instr.checkKey false 10000 kt (.int .i64 n)).run Tryd.prog w = .ok () w := MapKept.run_checkKey (k := .int .i64 n) hk (by simp [MapKept.IsKey]) false 9999
  simp [Instr.lookup, run_underlying hm, MapKept.run_getObj_map hb, he, hc, MapKept.run_findKey hk hf, hz, Result.andThen]
def ent (n : Int) (f : Nat) (b : Nat) : MapEntry := { key := .int .i64 n, val := .func (.func f) #[] #[], born := b }
def findsM : Array MapEntry := #[ent 6 146 0, ent 7 146 1, ent 8 147 2, ent 9 147 3, ent 10 148 4, ent 11 148 5]
theorem zero176 (w : World) : (zeroValue 176).run Tryd.prog w = .ok .nilFunc w := by kernel_rfl
theorem finds_made (W : World) (r : Nat) (h : W.heap[r]? = some (.map #[] 0)) :
    ∃ W1 W2 W3 W4 W5 W6 : World, (Instr.mapUpdate 177 (.map (some r)) (.int .i64 6) (.func (.func 146) #[] #[])).run Tryd.prog W = .ok () W1 ∧ (Instr.mapUpdate 177 (.map (some r)) (.int .i64 7) (.func (.func 146) #[] #[])).run Tryd.prog W1 = .ok () W2 ∧
      (Instr.mapUpdate 177 (.map (some r)) (.int .i64 8) (.func (.func 147) #[] #[])).run Tryd.prog W2 = .ok () W3 ∧ (Instr.mapUpdate 177 (.map (some r)) (.int .i64 9) (.func (.func 147) #[] #[])).run Tryd.prog W3 = .ok () W4 ∧
      (Instr.mapUpdate 177 (.map (some r)) (.int .i64 10) (.func (.func 148) #[] #[])).run Tryd.prog W4 = .ok () W5 ∧ (Instr.mapUpdate 177 (.map (some r)) (.int .i64 11) (.func (.func 148) #[] #[])).run Tryd.prog W5 = .ok () W6 ∧
      W6.heap[r]? = some (.map findsM 6) ∧ W.grownBy W6 (some r) := by
  obtain ⟨W1, e1, h1, g1⟩ := run_put 6 (.func (.func 146) #[] #[]) Tryd.underlying177 Tryd.underlying3 h rfl
  obtain ⟨W2, e2, h2, g2⟩ := run_put 7 (.func (.func 146) #[] #[]) Tryd.underlying177 Tryd.underlying3 h1 rfl
  obtain ⟨W3, e3, h3, g3⟩ := run_put 8 (.func (.func 147) #[] #[]) Tryd.underlying177 Tryd.underlying3 h2 rfl
  obtain ⟨W4, e4, h4, g4⟩ := run_put 9 (.func (.func 147) #[] #[]) Tryd.underlying177 Tryd.underlying3 h3 rfl
  obtain ⟨W5, e5, h5, g5⟩ := run_put 10 (.func (.func 148) #[] #[]) Tryd.underlying177 Tryd.underlying3 h4 rfl
  obtain ⟨W6, e6, h6, g6⟩ := run_put 11 (.func (.func 148) #[] #[]) Tryd.underlying177 Tryd.underlying3 h5 rfl
  exact ⟨W1, W2, W3, W4, W5, W6, e1, e2, e3, e4, e5, e6, h6, ((((g1.trans g2).trans g3).trans g4).trans g5).trans g6⟩
def finder (kind : Int) : Value := if kind = 6 ∨ kind = 7 then .func (.func 146) #[] #[] else if kind = 8 ∨ kind = 9 then .func (.func 147) #[] #[] else if kind = 10 ∨ kind = 11 then .func (.func 148) #[] #[] else .nilFunc
theorem finds_look {W : World} {r : Nat} (h : W.heap[r]? = some (.map findsM 6)) (kind : Int) : (Instr.lookup 177 (.map (some r)) (.int .i64 kind) false).run Tryd.prog W = .ok (finder kind) W := by
  by_cases h6 : kind = 6
  · subst h6; exact run_look (i := 0) Tryd.underlying177 Tryd.underlying3 h rfl rfl
  by_cases h7 : kind = 7
  · subst h7; exact run_look (i := 1) Tryd.underlying177 Tryd.underlying3 h rfl rfl
  by_cases h8 : kind = 8
  · subst h8; exact run_look (i := 2) Tryd.underlying177 Tryd.underlying3 h rfl rfl
  by_cases h9 : kind = 9
  · subst h9; exact run_look (i := 3) Tryd.underlying177 Tryd.underlying3 h rfl rfl
  by_cases h10 : kind = 10
  · subst h10; exact run_look (i := 4) Tryd.underlying177 Tryd.underlying3 h rfl rfl
  by_cases h11 : kind = 11
  · subst h11; exact run_look (i := 5) Tryd.underlying177 Tryd.underlying3 h rfl rfl
  have hf : finder kind = .nilFunc := by unfold finder; rw [if_neg (by omega), if_neg (by omega), if_neg (by omega)]
  rw [hf]
  refine run_miss Tryd.underlying177 Tryd.underlying3 h rfl ?_ (zero176 W)
  have b6 : (kind == 6) = false := by simpa using h6
  have b7 : (kind == 7) = false := by simpa using h7
  have b8 : (kind == 8) = false := by simpa using h8
  have b9 : (kind == 9) = false := by simpa using h9
  have b10 : (kind == 10) = false := by simpa using h10
  have b11 : (kind == 11) = false := by simpa using h11
  simp [findsM, ent, Instr.findNow, Instr.sameNow, b6, b7, b8, b9, b10, b11]
end Go.Proofs.YtjgomlcdmpcoaaaDoor.H
