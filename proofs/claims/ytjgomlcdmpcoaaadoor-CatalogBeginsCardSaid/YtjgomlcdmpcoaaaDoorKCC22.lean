/- Own texts of this session, packed by its program wip/pp/pack.py: lemmas and walks of functions. -/
import Derived.Deep.RegionHeld3
import Derived.Deep.RegionLaw
import Derived.Deep.CutRange
import Derived.Test.YtjgomlcdmpcoaaaDoorKCC1
import Derived.Test.YtjgomlcdmpcoaaaDoorKCC18
import Derived.Test.YtjgomlcdmpcoaaaDoorKCC21
namespace Go.Proofs.YtjgomlcdmpcoaaaDoor.H
open Go.RowKit Go.Proofs.YtjgomlcdmpcoaaaDoorW.PrintWords Go.Proofs.YtjgomlcdmpcoaaaDoorW.PrintLast Go.Proofs.YtjgomlcdmpcoaaaDoorW.PrintMore
open Go.Proofs.YtjgomlcdmpcoaaaDoor.D Go.Proofs.YtjgomlcdmpcoaaaDoor
set_option linter.unusedVariables false
set_option linter.unusedSimpArgs false
theorem take5 {l : List Value} {k : Nat} {a b c d e : Value} (ha : l[k]? = some a) (hb : l[k + 1]? = some b) (hc : l[k + 2]? = some c) (hd : l[k + 3]? = some d) (he : l[k + 4]? = some e) : (l.drop k).take 5 = [a, b, c, d, e] := by
  apply List.ext_getElem?
  intro i
  rw [List.getElem?_take, List.getElem?_drop]
  match i with
  | 0 => simpa using ha
  | 1 => simpa using hb
  | 2 => simpa using hc
  | 3 => simpa using hd
  | 4 => simpa using he
  | n + 5 => rw [if_neg (by omega)]; simp
theorem R_cells {α : Type} {d : Kd α} {e : TypeId} {W : World} {base g cap : Nat} {ok : Nat → Prop} {cs : Array Value} {xs : List α} (hg : W.heap[g]? = some (.cells cs e (0, 0))) (hb : base ≤ g) (hok : ok g) (hn : xs.length ≤ cap) (hm : cap ≤ maxLen) (hs : cs.size = cap * d.sz)
    (hrow : ∀ j (h : j < xs.length), d.M W base (fun k => ok k ∧ some k ≠ (Value.slice (some ⟨g, 0, none⟩) xs.length cap).ownBlock) xs[j] ((cs.toList.drop (j * d.sz)).take d.sz)) :
    d.R e W base ok (.slice (some ⟨g, 0, none⟩) xs.length cap) xs := by
  have hle : xs.length * d.sz ≤ cs.toList.length := by
    have h1 : xs.length * d.sz ≤ cap * d.sz := Nat.mul_le_mul_right _ hn
    have h2 : cs.toList.length = cs.size := Array.length_toList
    omega
  have hlen : (cs.toList.take (xs.length * d.sz)).length = xs.length * d.sz := by rw [List.length_take]; omega
  refine ⟨fun k hk => ?_, cs.toList.take (xs.length * d.sz), ⟨hlen, .inr ⟨g, cap, cs, rfl, hb, hg, hn, hm, hs, rfl⟩⟩, hlen, fun j p hj => ?_⟩
  · simp [Value.ownBlock] at hk
    rw [← hk]; exact hok
  · have hjl : j < xs.length := (List.getElem?_eq_some_iff.1 hj).1
    obtain rfl : xs[j] = p := (List.getElem?_eq_some_iff.1 hj).2
    have := hrow j hjl
    have h1 : j * d.sz + d.sz ≤ xs.length * d.sz := by rw [← Nat.succ_mul]; exact Nat.mul_le_mul_right _ hjl
    rw [List.drop_take, List.take_take, Nat.min_eq_left (by omega)]
    exact this
structure IdxS (w W : World) (B gi cap : Nat) (xs : List S98) (jj : Nat) : Prop where
  base : B ≤ gi
  lw : w.heap.size ≤ B
  room : xs.length ≤ cap ∧ cap ≤ maxLen
  blk : ∃ cs, W.heap[gi]? = some (.cells cs 98 (0, 0)) ∧ cs.size = cap * 5 ∧ ∀ j (h : j < xs.length), cs[j * 5]? = some (.int .i64 xs[j].f0) ∧ cs[j * 5 + 1]? = some (.string xs[j].f1) ∧ cs[j * 5 + 3]? = some (.bool xs[j].f3) ∧ cs[j * 5 + 4]? = some (.int .i64 xs[j].f4) ∧
    ∃ cv, cs[j * 5 + 2]? = some cv ∧ (j < jj → (Kd.int .i64).R 3 W B (fun _ => True) cv xs[j].f2) ∧ (jj ≤ j → ∃ A c, cv = .slice A xs[j].f2.length c ∧ xs[j].f2.length ≤ c ∧ (Kd.int .i64).C w A xs[j].f2.length xs[j].f2)
theorem IdxS.step {w W W' : World} {B gi cap jj : Nat} {xs : List S98} (h : IdxS w W B gi cap xs jj) (hb : Below W.heap.size W W') : IdxS w W' B gi cap xs jj := by
  obtain ⟨cs, hg, hs, hr⟩ := h.blk
  refine ⟨h.base, h.lw, h.room, cs, blk_below hg hb, hs, fun j hj => ?_⟩
  obtain ⟨h0, h1, h3, h4, cv, h2, hm, hc⟩ := hr j hj
  exact ⟨h0, h1, h3, h4, cv, h2, fun h => Kd.R_below (hm h) hb, hc⟩
theorem IdxS.put {w W : World} {B gi cap jj : Nat} {xs : List S98} {v : Value} (h : IdxS w W B gi cap xs jj) (hj : jj < xs.length) (hR : (Kd.int .i64).R 3 W B (fun _ => True) v xs[jj].f2) : IdxS w (W.setCell ⟨gi, jj * 5 + 2, none⟩ v) B gi cap xs (jj + 1) := by
  obtain ⟨cs, hg, hs, hr⟩ := h.blk
  refine ⟨h.base, h.lw, h.room, _, blk_set hg _ v, by rw [Array.size_setIfInBounds]; exact hs, fun j hjl => ?_⟩
  obtain ⟨h0, h1, h3, h4, cv, h2, hm, hc⟩ := hr j hjl
  rw [Array.getElem?_setIfInBounds_ne (by omega), Array.getElem?_setIfInBounds_ne (by omega), Array.getElem?_setIfInBounds_ne (by omega), Array.getElem?_setIfInBounds_ne (by omega)]
  refine ⟨h0, h1, h3, h4, ?_⟩
  by_cases hjj : j = jj
  · subst hjj
    refine ⟨v, ?_, fun _ => Kd.R_set hR hg (by decide) _ _, fun h => by omega⟩
    rw [Array.getElem?_setIfInBounds]
    have : j * 5 + 2 < cs.size := (Array.getElem?_eq_some_iff.1 h2).1
    simp [this]
  · refine ⟨cv, ?_, fun h => Kd.R_set (hm (by omega)) hg (by decide) _ _, fun h => hc (by omega)⟩
    rw [Array.getElem?_setIfInBounds_ne (by omega)]
    exact h2
theorem IdxS.all {w W : World} {B gi cap : Nat} {xs : List S98} (h : IdxS w W B gi cap xs xs.length) : k98.R 98 W B (fun _ => True) (.slice (some ⟨gi, 0, none⟩) xs.length cap) xs := by
  obtain ⟨cs, hg, hs, hr⟩ := h.blk
  refine R_cells (d := k98) hg h.base trivial h.room.1 h.room.2 hs (fun j hj => ?_)
  obtain ⟨h0, h1, h3, h4, cv, h2, hm, -⟩ := hr j hj
  have e : (cs.toList.drop (j * k98.sz)).take k98.sz = [.int .i64 xs[j].f0, .string xs[j].f1, cv, .bool xs[j].f3, .int .i64 xs[j].f4] := take5 (k := j * 5) (by simpa using h0) (by simpa using h1) (by simpa using h2) (by simpa using h3) (by simpa using h4)
  rw [e]
  have hcv := hm hj
  refine k98_mkM W B _ xs[j] (Kd.R_mono (Kd.R_bound hcv) (fun k hk => ⟨trivial, fun e => ?_⟩))
  simp [Value.ownBlock] at e
  obtain ⟨-, -, -, q, hq, cells, hk⟩ := hk
  rw [e, hg] at hk
  injection hk with hk
  injection hk with _ ht _
  have hq' : q ∈ ([3] : List Nat) := hq
  rw [List.mem_singleton.1 hq'] at ht
  exact absurd ht (by decide)
theorem IdxS.far {w W : World} {B gi cap jj g j : Nat} {xs : List S98} {cells : Array Value} (h : IdxS w W B gi cap xs jj) (hg : W.heap[g]? = some (.cells cells 70 (0, 0))) (u : Value) : IdxS w (W.setCell ⟨g, j, none⟩ u) B gi cap xs jj := by
  obtain ⟨cs, hgi, hs, hr⟩ := h.blk
  refine ⟨h.base, h.lw, h.room, cs, blk_far hgi (p := ⟨g, j, none⟩) (blk_ne hgi hg (by decide)) u, hs, fun q hq => ?_⟩
  obtain ⟨h0, h1, h3, h4, cv, h2, hm, hc⟩ := hr q hq
  exact ⟨h0, h1, h3, h4, cv, h2, fun hl => Kd.R_set (hm hl) hg (by decide) _ _, hc⟩
theorem IdxS.see {w W : World} {B gi cap jj : Nat} {xs : List S98} (h : IdxS w W B gi cap xs jj) (hj : jj < xs.length) : ∃ A c, W.cell? ⟨gi, jj * 5 + 2, none⟩ = some (.slice A xs[jj].f2.length c) ∧ xs[jj].f2.length ≤ c ∧ (Kd.int .i64).C w A xs[jj].f2.length xs[jj].f2 ∧ W.frozen? ⟨gi, jj * 5 + 2, none⟩ = false ∧ gi < W.heap.size ∧ ∃ cells, W.heap[gi]? = some (.cells cells 98 (0, 0)) := by
  obtain ⟨cs, hgi, hs, hr⟩ := h.blk
  obtain ⟨-, -, -, -, cv, h2, -, hc⟩ := hr jj hj
  obtain ⟨A, c, rfl, hl, hC⟩ := hc (Nat.le_refl _)
  exact ⟨A, c, H.blk_cell hgi h2, hl, hC, blk_frozen hgi _, lt_of_block hgi, cs, hgi⟩
theorem IdxS.new {w W : World} {B B' cap gi : Nat} {xs : List S98} {rows : List (List Value)} (h : (Kd.raw 5).R 98 W B' (fun _ => True) (.slice (some ⟨gi, 0, none⟩) rows.length cap) rows) (hB : B ≤ B') (hw : w.heap.size ≤ B) (hl : rows.length = xs.length) (hK : ∀ (j : Nat) (x : S98) (c : List Value), xs[j]? = some x → rows[j]? = some c → k98.K w x c) :
    IdxS w W B gi cap xs 0 := by
  obtain ⟨inner, ho⟩ := Kd.R_own h
  rcases ho.2 with ⟨e, hn⟩ | ⟨g', cap', cur, e, hbb, hg, hle, hmx, hsz, -⟩
  · cases e
  · injection e with e1 e2 e3
    injection e1 with e1
    injection e1 with e1
    subst e1 e3
    refine ⟨Nat.le_trans hB hbb, hw, ⟨by rw [← hl]; exact hle, hmx⟩, cur, hg, hsz, fun j hj => ?_⟩
    have hjr : j < rows.length := by omega
    obtain ⟨c, h1, h2, h3, -⟩ := Kd.R_elem h [] (j : Int) (by omega) (by omega)
    rw [show rows.getD (j : Int).toNat [] = rows[j] by simp [List.getD, hjr]] at h2
    have hc : c = rows[j] := h2.1
    have hk := hK j xs[j] rows[j] (List.getElem?_eq_getElem hj) (List.getElem?_eq_getElem hjr)
    rw [← hc] at hk
    obtain ⟨A2, c2, rfl, l2, g2⟩ := k98_open hk
    have q : ∀ (s : Nat) (u : Value), ([.int .i64 xs[j].f0, .string xs[j].f1, .slice A2 xs[j].f2.length c2, .bool xs[j].f3, .int .i64 xs[j].f4] : List Value)[s]? = some u → cur[j * 5 + s]? = some u := fun s u hu => by
      have := h3 s u hu
      rw [pwC hg] at this
      exact this
    exact ⟨q 0 _ rfl, q 1 _ rfl, q 3 _ rfl, q 4 _ rfl, _, q 2 _ rfl, fun h => by omega, fun _ => ⟨A2, c2, rfl, l2, g2⟩⟩
theorem I_none {v : Value} {W : World} {B B' : Nat} (h : (Kd.raw 5).R 98 W B (fun _ => True) v []) (hB : B' ≤ B) : k98.R 98 W B' (fun _ => True) v [] := by
  obtain ⟨h0, inner, ho, hr⟩ := h
  exact Kd.R_lower ⟨h0, inner, ho, hr.1, fun j p hj => by simp at hj⟩ hB
def CameC (w : World) (cv : Value) (xs : List S75) : Prop := ∃ A c, cv = .slice A xs.length c ∧ xs.length ≤ c ∧ k75.C w A xs.length xs
def CameI (w : World) (iv : Value) (xs : List S98) : Prop := ∃ A c, iv = .slice A xs.length c ∧ xs.length ≤ c ∧ k98.C w A xs.length xs
structure CopH (w W : World) (g cap : Nat) (ts : List S70) (i : Nat) (f : Nat → Nat) (P : Value → Value → Prop) : Prop where
  below : Below w.heap.size w W
  base : w.heap.size ≤ g
  room : ts.length ≤ cap ∧ cap ≤ maxLen
  blk : ∃ cs, W.heap[g]? = some (.cells cs 70 (0, 0)) ∧ cs.size = cap * 5 ∧ ∀ j (h : j < ts.length), cs[j * 5]? = some (.int .i64 ts[j].f0) ∧ cs[j * 5 + 1]? = some (.string ts[j].f1) ∧ cs[j * 5 + 4]? = some (.int .i64 ts[j].f4) ∧
    ∃ cv iv, cs[j * 5 + 2]? = some cv ∧ cs[j * 5 + 3]? = some iv ∧ (j < i → k75.R 75 W w.heap.size (fun k => f k = j) cv ts[j].f2 ∧ k98.R 98 W w.heap.size (fun k => f k = j) iv ts[j].f3) ∧ (j = i → P cv iv) ∧ (i < j → CameC w cv ts[j].f2 ∧ CameI w iv ts[j].f3)
section
variable {w W W' : World} {g cap i : Nat} {ts : List S70} {f f' : Nat → Nat} {P P' : Value → Value → Prop}
theorem CopH.step (h : CopH w W g cap ts i f P) (hb : Below W.heap.size W W') : CopH w W' g cap ts i f P := by
  obtain ⟨cs, hg, hs, hr⟩ := h.blk
  refine ⟨below_then h.below h.below.size hb, h.base, h.room, cs, blk_below hg hb, hs, fun j hj => ?_⟩
  obtain ⟨h0, h1, h4, cv, iv, h2, h3, hm, hp, hc⟩ := hr j hj
  exact ⟨h0, h1, h4, cv, iv, h2, h3, fun h => ⟨Kd.R_below (hm h).1 hb, Kd.R_below (hm h).2 hb⟩, hp, hc⟩
theorem CopH.put (h : CopH w W g cap ts i f P) (cv iv : Value) (hP : P' cv iv) : CopH w ((W.setCell ⟨g, i * 5 + 2, none⟩ cv).setCell ⟨g, i * 5 + 3, none⟩ iv) g cap ts i f P' := by
  obtain ⟨cs, hg, hs, hr⟩ := h.blk
  have hg1 := blk_set hg (i * 5 + 2) cv
  have hg2 := blk_set hg1 (i * 5 + 3) iv
  refine ⟨(h.below.setCell (p := ⟨g, i * 5 + 2, none⟩) h.base _).setCell (p := ⟨g, i * 5 + 3, none⟩) h.base _, h.base, h.room, _, hg2, by rw [Array.size_setIfInBounds, Array.size_setIfInBounds]; exact hs, fun j hj => ?_⟩
  obtain ⟨h0, h1, h4, cv0, iv0, h2, h3, hm, hp, hc⟩ := hr j hj
  have ne : ∀ q, q ≠ i * 5 + 2 → q ≠ i * 5 + 3 → ((cs.setIfInBounds (i * 5 + 2) cv).setIfInBounds (i * 5 + 3) iv)[q]? = cs[q]? := fun q a b => by
    rw [Array.getElem?_setIfInBounds_ne (Ne.symm b), Array.getElem?_setIfInBounds_ne (Ne.symm a)]
  rw [ne _ (by omega) (by omega), ne _ (by omega) (by omega), ne _ (by omega) (by omega)]
  refine ⟨h0, h1, h4, ?_⟩
  by_cases hji : j = i
  · subst hji
    have q2 : j * 5 + 2 < cs.size := (Array.getElem?_eq_some_iff.1 h2).1
    have q3 : j * 5 + 3 < cs.size := (Array.getElem?_eq_some_iff.1 h3).1
    refine ⟨cv, iv, ?_, ?_, fun h => by omega, fun _ => hP, fun h => by omega⟩
    · rw [Array.getElem?_setIfInBounds_ne (by omega), Array.getElem?_setIfInBounds]
      simp [q2]
    · rw [Array.getElem?_setIfInBounds]
      simp [q3]
  · refine ⟨cv0, iv0, by rw [ne _ (by omega) (by omega)]; exact h2, by rw [ne _ (by omega) (by omega)]; exact h3, fun h => ⟨?_, ?_⟩, fun h => absurd h hji, hc⟩
    · exact Kd.R_set (Kd.R_set (hm h).1 hg (by decide) _ _) hg1 (by decide) _ _
    · exact Kd.R_set (Kd.R_set (hm h).2 hg (by decide) _ _) hg1 (by decide) _ _
theorem CopH.other (h : CopH w W g cap ts i f P) {gi : Nat} {cells : Array Value} (hgi : W.heap[gi]? = some (.cells cells 98 (0, 0))) (hB : w.heap.size ≤ gi) (hf : f gi = i) (j : Nat) (u : Value) : CopH w (W.setCell ⟨gi, j, none⟩ u) g cap ts i f P := by
  obtain ⟨cs, hg, hs, hr⟩ := h.blk
  have hne : g ≠ gi := blk_ne hg hgi (by decide)
  refine ⟨h.below.setCell (p := ⟨gi, j, none⟩) hB _, h.base, h.room, cs, blk_far hg (p := ⟨gi, j, none⟩) hne u, hs, fun q hq => ?_⟩
  obtain ⟨h0, h1, h4, cv, iv, h2, h3, hm, hp, hc⟩ := hr q hq
  exact ⟨h0, h1, h4, cv, iv, h2, h3, fun hl => ⟨Kd.R_far (hm hl).1 (fun k hk e => by rw [e, hf] at hk; omega) u, Kd.R_far (hm hl).2 (fun k hk e => by rw [e, hf] at hk; omega) u⟩, hp, hc⟩
theorem CopH.next (h : CopH w W g cap ts i f P) (hi : i < ts.length) (hP : ∀ cv iv, P cv iv → k75.R 75 W w.heap.size (fun k => f k = i) cv ts[i].f2 ∧ k98.R 98 W w.heap.size (fun k => f k = i) iv ts[i].f3) : CopH w W g cap ts (i + 1) f (fun cv iv => ∀ (hq : i + 1 < ts.length), CameC w cv ts[i + 1].f2 ∧ CameI w iv ts[i + 1].f3) := by
  obtain ⟨cs, hg, hs, hr⟩ := h.blk
  refine ⟨h.below, h.base, h.room, cs, hg, hs, fun j hj => ?_⟩
  obtain ⟨h0, h1, h4, cv, iv, h2, h3, hm, hp, hc⟩ := hr j hj
  refine ⟨h0, h1, h4, cv, iv, h2, h3, fun hl => ?_, fun he hq => ?_, fun hl => hc (by omega)⟩
  · by_cases hji : j = i
    · subst hji; exact hP cv iv (hp rfl)
    · exact hm (by omega)
  · subst he; exact hc (by omega)
theorem CopH.own (h : CopH w W g cap ts i f P) : CopH w W g cap ts i (fun k => if k < W.heap.size then f k else i) P := by
  obtain ⟨cs, hg, hs, hr⟩ := h.blk
  refine ⟨h.below, h.base, h.room, cs, hg, hs, fun j hj => ?_⟩
  obtain ⟨h0, h1, h4, cv, iv, h2, h3, hm, hp, hc⟩ := hr j hj
  refine ⟨h0, h1, h4, cv, iv, h2, h3, fun hl => ⟨?_, ?_⟩, hp, hc⟩
  · exact Kd.R_mono (Kd.R_bound (hm hl).1) (fun k hk => by rw [if_pos hk.2.2.1]; exact hk.1)
  · exact Kd.R_mono (Kd.R_bound (hm hl).2) (fun k hk => by rw [if_pos hk.2.2.1]; exact hk.1)
theorem raw_rows {A : Option Addr} {n : Nat} (hC : k70.C w A n ts) : ∃ rows : List (List Value), rows.length = ts.length ∧ (Kd.raw 5).C w A n rows ∧ ∀ (j : Nat) (x : S70) (c : List Value), ts[j]? = some x → rows[j]? = some c → k70.K w x c :=
  Kd.reads_raw (sz := 5) hC (fun x c hk => ⟨k70.K_len hk, k70.K_one hk⟩)
theorem CopH.new {B : Nat} {rows : List (List Value)} (h : (Kd.raw 5).R 70 W B (fun _ => True) (.slice (some ⟨g, 0, none⟩) rows.length cap) rows) (hB : w.heap.size ≤ B) (hb : Below w.heap.size w W) (hl : rows.length = ts.length) (hK : ∀ (j : Nat) (x : S70) (c : List Value), ts[j]? = some x → rows[j]? = some c → k70.K w x c) :
    CopH w W g cap ts 0 (fun _ => 0) (fun cv iv => ∀ (hq : 0 < ts.length), CameC w cv ts[0].f2 ∧ CameI w iv ts[0].f3) := by
  obtain ⟨inner, ho⟩ := Kd.R_own h
  rcases ho.2 with ⟨e, hn⟩ | ⟨g', cap', cur, e, hbb, hg, hle, hmx, hsz, -⟩
  · cases e
  · injection e with e1 e2 e3
    injection e1 with e1
    injection e1 with e1
    subst e1 e3
    refine ⟨hb, Nat.le_trans hB hbb, ⟨by rw [← hl]; exact hle, hmx⟩, cur, hg, hsz, fun j hj => ?_⟩
    have hjr : j < rows.length := by omega
    obtain ⟨c, h1, h2, h3, -⟩ := Kd.R_elem h [] (j : Int) (by omega) (by omega)
    rw [show rows.getD (j : Int).toNat [] = rows[j] by simp [List.getD, hjr]] at h2
    have hc : c = rows[j] := h2.1
    have hk := hK j ts[j] rows[j] (List.getElem?_eq_getElem hj) (List.getElem?_eq_getElem hjr)
    rw [← hc] at hk
    obtain ⟨A2, c2, A3, c3, rfl, l2, g2, l3, g3⟩ := k70_open hk
    have q : ∀ (s : Nat) (u : Value), ([.int .i64 ts[j].f0, .string ts[j].f1, .slice A2 ts[j].f2.length c2, .slice A3 ts[j].f3.length c3, .int .i64 ts[j].f4] : List Value)[s]? = some u → cur[j * 5 + s]? = some u := fun s u hu => by
      have := h3 s u hu
      rw [pwC hg] at this
      exact this
    exact ⟨q 0 _ rfl, q 1 _ rfl, q 4 _ rfl, _, _, q 2 _ rfl, q 3 _ rfl, fun h => by omega, fun he hq => by subst he; exact ⟨⟨A2, c2, rfl, l2, g2⟩, ⟨A3, c3, rfl, l3, g3⟩⟩, fun _ => ⟨⟨A2, c2, rfl, l2, g2⟩, ⟨A3, c3, rfl, l3, g3⟩⟩⟩
theorem CopH.see (h : CopH w W g cap ts i f P) (hi : i < ts.length) : ∃ cv iv, P cv iv ∧ W.cell? ⟨g, i * 5 + 2, none⟩ = some cv ∧ W.cell? ⟨g, i * 5 + 3, none⟩ = some iv ∧ (∀ q, W.frozen? ⟨g, q, none⟩ = false) ∧ g < W.heap.size := by
  obtain ⟨cs, hg, hs, hr⟩ := h.blk
  obtain ⟨-, -, -, cv, iv, h2, h3, -, hp, -⟩ := hr i hi
  exact ⟨cv, iv, hp rfl, H.blk_cell hg h2, H.blk_cell hg h3, fun q => blk_frozen hg q, lt_of_block hg⟩
theorem S_none {v : Value} {B : Nat} (h : (Kd.raw 5).R 70 W B (fun _ => True) v []) : Kd.S k70 70 W B (fun _ => True) v [] := by
  obtain ⟨h0, inner, ho, hr⟩ := h
  exact ⟨fun _ => 0, h0, inner, ho, hr.1, fun j p hj => by simp at hj⟩
theorem CopH.all (h : CopH w W g cap ts ts.length f P) : Kd.S k70 70 W w.heap.size (fun _ => True) (.slice (some ⟨g, 0, none⟩) ts.length cap) ts := by
  obtain ⟨cs, hg, hs, hr⟩ := h.blk
  have hl : ts.zipIdx.length = ts.length := List.length_zipIdx
  refine ⟨f, ?_⟩
  have := R_cells (d := Kd.tag f k70) (ok := fun _ => True) (xs := ts.zipIdx) hg h.base trivial (by rw [hl]; exact h.room.1) h.room.2 hs (fun j hj => by
    have hjl : j < ts.length := by rwa [hl] at hj
    obtain ⟨h0, h1, h4, cv, iv, h2, h3, hm, -⟩ := hr j hjl
    have e : (cs.toList.drop (j * 5)).take 5 = [.int .i64 ts[j].f0, .string ts[j].f1, cv, iv, .int .i64 ts[j].f4] := take5 (k := j * 5) (by simpa using h0) (by simpa using h1) (by simpa using h2) (by simpa using h3) (by simpa using h4)
    show k70.M W w.heap.size _ (ts.zipIdx[j]).1 ((cs.toList.drop (j * 5)).take 5)
    rw [e]
    have ez : ts.zipIdx[j] = (ts[j], j) := by simp
    have hng : ∀ k, (∃ cells q, W.heap[k]? = some (.cells cells q (0, 0)) ∧ q ≠ 70) → some k ≠ (Value.slice (some ⟨g, 0, none⟩) ts.zipIdx.length cap).ownBlock := fun k ⟨cells, q, hk, hq⟩ e => by
      simp [Value.ownBlock] at e
      rw [e, hg] at hk
      injection hk with hk
      injection hk with _ ht _
      exact hq ht.symm
    rw [ez]
    refine k70_mkM W w.heap.size _ ts[j] (Kd.R_mono (Kd.R_bound (hm hjl).1) (fun k hk => ⟨⟨trivial, hng k ?_⟩, hk.1⟩)) (Kd.R_mono (Kd.R_bound (hm hjl).2) (fun k hk => ⟨⟨trivial, hng k ?_⟩, hk.1⟩))
    · obtain ⟨-, -, -, q, hq, cells, hk⟩ := hk
      exact ⟨cells, q, hk, fun e => by subst e; exact absurd hq (by decide)⟩
    · obtain ⟨-, -, -, q, hq, cells, hk⟩ := hk
      exact ⟨cells, q, hk, fun e => by subst e; exact absurd hq (by decide)⟩)
  rw [hl] at this
  exact this
end
end Go.Proofs.YtjgomlcdmpcoaaaDoor.H
namespace Go.Proofs.YtjgomlcdmpcoaaaDoor.H
open Go.RowKit Go.Proofs.YtjgomlcdmpcoaaaDoorW.PrintWords Go.Proofs.YtjgomlcdmpcoaaaDoorW.PrintLast Go.Proofs.YtjgomlcdmpcoaaaDoorW.PrintMore
open Go.Proofs.YtjgomlcdmpcoaaaDoor.D Go.Proofs.YtjgomlcdmpcoaaaDoor
set_option linter.unusedVariables false
set_option linter.unusedSimpArgs false
structure CopB (w W : World) (v nx : Int) (u : Value) : Prop where
  b0 : W.heap[w.heap.size]? = some (.cells #[.int .i64 v, u, .int .i64 nx] 28 (0, 0))
  b1 : W.heap[w.heap.size + 1]? = some (.cells #[.int .i64 0, .slice none 0 0, .int .i64 0] 28 (0, 0))
theorem CopB.step {w W W' : World} {v nx : Int} {u : Value} (h : CopB w W v nx u) (hb : Below W.heap.size W W') : CopB w W' v nx u := ⟨blk_below h.b0 hb, blk_below h.b1 hb⟩
theorem CopB.far {w W : World} {v nx : Int} {u : Value} (h : CopB w W v nx u) {g j t : Nat} {cs : Array Value} (hg : W.heap[g]? = some (.cells cs t (0, 0))) (ht : 28 ≠ t) (x : Value) : CopB w (W.setCell ⟨g, j, none⟩ x) v nx u :=
  ⟨blk_far h.b0 (p := ⟨g, j, none⟩) (blk_ne h.b0 hg ht) _, blk_far h.b1 (p := ⟨g, j, none⟩) (blk_ne h.b1 hg ht) _⟩
set_option maxRecDepth 100000 in
set_option maxHeartbeats 8000000 in
theorem copied_calls (v : Int) (ts : List S70) (nx : Int) (hsm : Small ts) (A : Option Addr) (c : Nat) (w : World) (hc : ts.length ≤ c) (hC : k70.C w A ts.length ts) :
    Calls Tryd.prog 109 #[.agg #[.int .i64 v, .slice A ts.length c, .int .i64 nx]] w fun e w' => ∃ u, e = .returned (.agg #[.int .i64 v, u, .int .i64 nx]) ∧ Kd.S k70 70 w' w.heap.size (fun _ => True) u ts ∧ Below w.heap.size w w' := by
  obtain ⟨rows, hrl, hrC, hrK⟩ := raw_rows hC
  obtain ⟨w0, hw0⟩ : ∃ w0, w0 = (w.alloc (.cells #[.int .i64 v, .slice A ts.length c, .int .i64 nx] 28)).alloc (.cells #[.int .i64 0, .slice none 0 0, .int .i64 0] 28) := ⟨_, rfl⟩
  have hb0 : Below w.heap.size w w0 := by rw [hw0]; exact below_alloc (below_alloc (Below.refl _ _) _) _
  have hB0 : CopB w w0 v nx (.slice A ts.length c) := by
    rw [hw0]
    refine ⟨blk_alloc (heap_alloc_new w _) _, ?_⟩
    have := heap_alloc_new (w.alloc (.cells #[.int .i64 v, .slice A ts.length c, .int .i64 nx] 28)) (.cells #[.int .i64 0, .slice none 0 0, .int .i64 0] 28)
    simpa using this
  have HCL := Lib.hid (clone152 rows A c w0 (by rw [hrl]; exact Nat.le_trans hsm.1 (by decide)) (Kd.C_below (by rw [hrl]; exact hrC) hb0))
  have HB0 := Aside0.mk hb0
  have HX0 := Aside0.mk hB0
  have HK := Lib.hid hrK
  have HSM := Lib.hid hsm
  have HRL := Lib.hid hrl
  have hts := hsm.1
  have HW0 := Lib.hid hw0
  rw [hw0, hrl] at HCL
  clear hb0 hB0 hrC hrK hsm hC hrl hw0
  go_enter Tryd.func109, Tryd.ntmps109
  go_wp2_with fail
  refine HCL.out.mono ?_
  rw [← HW0.out]
  rintro e w1 ⟨u, rfl, hu, hb1⟩
  have hX1 := HX0.out.step hb1
  have HB1 := Aside0.mk (below_then HB0.out HB0.out.size hb1)
  obtain ⟨Au, cu, hue⟩ := Kd.R_slice hu
  rw [HRL.out] at hue
  subst hue
  have x1 := blk_cell (j := 1) (v := .slice A ts.length c) hX1.b0 rfl
  have f1 := blk_frozen hX1.b0 1
  have hwl : w.heap.size < w1.heap.size := lt_of_block hX1.b0
  have hX2 : CopB w (w1.setCell ⟨w.heap.size, 1, none⟩ (.slice Au ts.length cu)) v nx (.slice Au ts.length cu) := ⟨blk_put hX1.b0 1 _ rfl, blk_far hX1.b1 (p := ⟨w.heap.size, 1, none⟩) (show w.heap.size + 1 ≠ w.heap.size by omega) _⟩
  have hu2 := Kd.R_set hu hX1.b0 (by decide) 1 (.slice Au ts.length cu)
  have hb2 := HB1.out.setCell (p := ⟨w.heap.size, 1, none⟩) (Nat.le_refl _) (.slice Au ts.length cu)
  have HX2 := Aside0.mk hX2
  have HU2 := Aside0.mk hu2
  have HB2 := Aside0.mk hb2
  clear hX1 hb1 hu hX2 hu2 hb2
  go_wp2_with fail
  clear x1 f1
  generalize w1.setCell ⟨w.heap.size, 1, none⟩ (.slice Au ts.length cu) = w2 at HX2 HU2 HB2 ⊢
  rcases Nat.eq_zero_or_pos ts.length with h0 | hpos
  · have hts0 : ts = [] := List.eq_nil_of_length_eq_zero h0
    have hr0 : rows = [] := List.eq_nil_of_length_eq_zero (by rw [HRL.out]; exact h0)
    have hS0 : Kd.S k70 70 w2 w.heap.size (fun _ => True) (.slice Au ts.length cu) ts := by
      have h := HU2.out
      rw [hr0] at h
      have h2 := S_none h
      rw [hts0]
      rw [hts0] at h2
      exact Kd.S_lower h2 HB0.out.size
    have hltz : ¬ (0 : Int) < (ts.length : Int) := by omega
    have H0 := Lib.hid h0
    clear hts0 hr0 h0
    go_loopg [13] 0 (fun gg u13 wr => u13 = .int .i64 0 ∧ wr = w2)
    case atStart => exact ⟨rfl, rfl⟩
    case round =>
      obtain ⟨rfl, rfl⟩ := hrel
      have hS := hS0
      have hS2 := S_set3 (a := .int .i64 v) (b := .slice Au ts.length cu) (c := .int .i64 nx) hS HX2.out.b1
      have hb9 := ((HB2.out.setCell (p := ⟨w.heap.size + 1, 0, none⟩) (show w.heap.size ≤ w.heap.size + 1 by omega) (.int .i64 v)).setCell (p := ⟨w.heap.size + 1, 1, none⟩) (show w.heap.size ≤ w.heap.size + 1 by omega) (.slice Au ts.length cu)).setCell (p := ⟨w.heap.size + 1, 2, none⟩) (show w.heap.size ≤ w.heap.size + 1 by omega) (.int .i64 nx)
      have HFIN := Aside0.mk (And.intro hS2 hb9)
      have x0 := blk_cell (j := 0) (v := .int .i64 v) HX2.out.b0 rfl
      have x1 := blk_cell (j := 1) (v := .slice Au ts.length cu) HX2.out.b0 rfl
      have x2 := blk_cell (j := 2) (v := .int .i64 nx) HX2.out.b0 rfl
      have c0 := blk_cell (j := 0) (v := .int .i64 0) HX2.out.b1 rfl
      have c1 := blk_cell (j := 1) (v := .slice none 0 0) HX2.out.b1 rfl
      have c2 := blk_cell (j := 2) (v := .int .i64 0) HX2.out.b1 rfl
      have f0 := blk_frozen HX2.out.b1 0
      have f1 := blk_frozen HX2.out.b1 1
      have f2 := blk_frozen HX2.out.b1 2
      clear hS hS2 hb9
      go_wp2
      refine bodyPost_ret (v := .agg #[.int .i64 v, .slice Au ts.length cu, .int .i64 nx]) (by simp [results, Tryd.results109, go_sem, c0, c1, c2]) rfl ?_
      exact ⟨_, rfl, HFIN.out.1, HFIN.out.2⟩
  · obtain ⟨g, cap, hgv, -⟩ := Kd.R_form HU2.out (by rw [HRL.out]; exact hpos)
    rw [HRL.out] at hgv
    injection hgv with e1 e2 e3
    subst e1 e3
    have HH := Aside0.mk (CopH.new (w := w) (ts := ts) (by rw [HRL.out]; exact HU2.out) HB0.out.size HB2.out HRL.out HK.out)
    clear HU2 HCL
    go_loopg [13] ts.length (fun gg u13 wr => ∃ i : Nat, ∃ f : Nat → Nat, i ≤ ts.length ∧ ts.length - i ≤ gg ∧ u13 = .int .i64 i ∧ Aside0 (CopH w wr g cu ts i f (fun cv iv => ∀ (hq : i < ts.length), CameC w cv ts[i].f2 ∧ CameI w iv ts[i].f3)) ∧ Aside0 (CopB w wr v nx (.slice (some ⟨g, 0, none⟩) ts.length cu)))
    case atStart => exact ⟨0, _, Nat.zero_le _, by omega, rfl, HH, HX2⟩
    case round =>
      clear HH HX2
      obtain ⟨i, f, hi, hgi, rfl, HH, HX⟩ := hrel
      by_cases hlt : i < ts.length
      · have hltz : (i : Int) < (ts.length : Int) := by omega
        have hi0 : (0 : Int) ≤ (i : Int) := by omega
        obtain ⟨cv, iv, hP, h2, h3, hfr, hgl⟩ := HH.out.see hlt
        obtain ⟨⟨A2, c2, rfl, l2, g2⟩, ⟨A3, c3, rfl, l3, g3⟩⟩ := hP hlt
        have hsI := HSM.out.2 _ (List.getElem_mem hlt)
        have HC1 := Lib.hid (fun (W : World) (hb : Below w.heap.size w W) => clone113 ts[i].f2 A2 c2 W (Nat.le_trans hsI.1 (by decide)) (Kd.C_below g2 hb))
        obtain ⟨rowsI, hil, hiC, hiK⟩ := Kd.reads_raw (sz := 5) g3 (fun x c hk => ⟨k98.K_len hk, k98.K_one hk⟩)
        have HC2 := Lib.hid (fun (W : World) (hb : Below w.heap.size w W) => clone153 rowsI A3 c3 W (by rw [hil]; exact Nat.le_trans hsI.2.1 (by decide)) (Kd.C_below (by rw [hil]; exact hiC) hb))
        rw [hil] at HC2
        have HIL := Lib.hid hil
        have HIK := Lib.hid hiK
        have x1 := blk_cell (j := 1) (v := .slice (some ⟨g, 0, none⟩) ts.length cu) HX.out.b0 rfl
        have hbr := HH.out.below
        have HBR := Aside0.mk hbr
        have hfr2 := hfr (i * 5 + 2)
        have hfr3 := hfr (i * 5 + 3)
        clear hP g2 g3 hiC hiK hsI hil hbr hfr
        go_wp2_with fail
        obtain ⟨BB, hBB⟩ : ∃ BB, wr.heap.size = BB := ⟨_, rfl⟩
        have HBBL := Lib.hid (show w.heap.size ≤ BB by rw [← hBB]; exact HBR.out.size)
        have HBB := Lib.hid hBB
        clear hBB
        go_cut [13] from 13 to 61 (fun u13 wc => u13 = .int .i64 i ∧ ∃ A4 c4 A5 c5, Aside0 (CopH w wc g cu ts i (fun k => if k < BB then f k else i) (fun cv iv => cv = .slice A4 ts[i].f2.length c4 ∧ iv = .slice A5 ts[i].f3.length c5)) ∧ Aside0 (k75.R 75 wc BB (fun _ => True) (.slice A4 ts[i].f2.length c4) ts[i].f2) ∧ Aside0 (CopB w wc v nx (.slice (some ⟨g, 0, none⟩) ts.length cu)) ∧ Aside0 ((ts[i].f3.length = 0 ∧ k98.R 98 wc BB (fun _ => True) (.slice A5 ts[i].f3.length c5) ts[i].f3) ∨ (∃ gi, A5 = some ⟨gi, 0, none⟩ ∧ 0 < ts[i].f3.length ∧ IdxS w wc BB gi c5 ts[i].f3 0)))
        case first =>
          go_region_law (first
            | (go_simp; go_at_call 113; refine (HC1.out _ (below_then HBR.out HBR.out.size (below_drew (Below.refl _ _)))).mono ?_; rintro e w3 ⟨v1, rfl, hv1, hb3⟩; obtain ⟨A4, c4, hq1⟩ := Kd.R_slice hv1; subst hq1; have hbA := below_then (below_drew (Below.refl _ wr)) (Nat.le_refl _) hb3; have d2 := pw_cell_below hbA h2; have d3 := pw_cell_below hbA h3)
            | (go_simp; go_at_call 153; refine (HC2.out _ (below_then HBR.out HBR.out.size hbA)).mono ?_; rintro e w4 ⟨v2, rfl, hv2, hb4⟩; obtain ⟨A5, c5, hq2⟩ := Kd.R_slice hv2; rw [HIL.out] at hq2; subst hq2; have hbB := below_then hbA hbA.size hb4; have e2 := pw_cell_below hbB h2; have e3 := pw_cell_below hbB h3; obtain ⟨cs4, hg4, -⟩ := (HH.out.step hbB).blk; have ff2 := blk_frozen hg4 (i * 5 + 2); have ff3 := blk_frozen hg4 (i * 5 + 3); have hgl4 := lt_of_block hg4; clear hg4))
          all_goals
            have hv1b := Kd.R_below hv1 hb4
            obtain ⟨cs4, hg4, -⟩ := (HH.out.step hbB).blk
            have hg5 := blk_set hg4 (i * 5 + 2) (.slice A4 ts[i].f2.length c4)
            have hv5 := Kd.R_set (Kd.R_set hv1b hg4 (by decide) (i * 5 + 2) (.slice A4 ts[i].f2.length c4)) hg5 (by decide) (i * 5 + 3) (.slice A5 ts[i].f3.length c5)
            have hX5 := ((HX.out.step hbB).far hg4 (by decide) (j := i * 5 + 2) (.slice A4 ts[i].f2.length c4)).far hg5 (by decide) (j := i * 5 + 3) (.slice A5 ts[i].f3.length c5)
            have hH5 := (HH.out.own.step hbB).put (P' := fun cv iv => cv = .slice A4 ts[i].f2.length c4 ∧ iv = .slice A5 ts[i].f3.length c5) (.slice A4 ts[i].f2.length c4) (.slice A5 ts[i].f3.length c5) ⟨rfl, rfl⟩
            have hw3 : wr.heap.size ≤ w3.heap.size := hbA.size
            have hI5 : (ts[i].f3.length = 0 ∧ k98.R 98 ((w4.setCell ⟨g, i * 5 + 2, none⟩ (.slice A4 ts[i].f2.length c4)).setCell ⟨g, i * 5 + 3, none⟩ (.slice A5 ts[i].f3.length c5)) wr.heap.size (fun _ => True) (.slice A5 ts[i].f3.length c5) ts[i].f3) ∨ (∃ gi, A5 = some ⟨gi, 0, none⟩ ∧ 0 < ts[i].f3.length ∧ IdxS w ((w4.setCell ⟨g, i * 5 + 2, none⟩ (.slice A4 ts[i].f2.length c4)).setCell ⟨g, i * 5 + 3, none⟩ (.slice A5 ts[i].f3.length c5)) wr.heap.size gi c5 ts[i].f3 0) := by
              rcases Nat.eq_zero_or_pos ts[i].f3.length with hz | hz
              · have hr0 : rowsI = [] := List.eq_nil_of_length_eq_zero (by rw [HIL.out]; exact hz)
                have hx0 : ts[i].f3 = [] := List.eq_nil_of_length_eq_zero hz
                have h0 := I_none (B' := wr.heap.size) (by rw [hr0] at hv2; exact hv2) hw3
                refine .inl ⟨hz, ?_⟩
                have h1 := Kd.R_set (Kd.R_set h0 hg4 (by decide) (i * 5 + 2) (.slice A4 ts[i].f2.length c4)) hg5 (by decide) (i * 5 + 3) (.slice A5 ts[i].f3.length c5)
                rw [← hx0] at h1
                exact h1
              · obtain ⟨gi, cap', hgv, -⟩ := Kd.R_form hv2 (by rw [HIL.out]; exact hz)
                rw [HIL.out] at hgv
                injection hgv with e1 e2 e3
                subst e1 e3
                exact .inr ⟨gi, rfl, hz, ((IdxS.new (by rw [HIL.out]; exact hv2) hw3 HBR.out.size HIL.out HIK.out).far hg4 _).far hg5 _⟩
            have HV5 := Aside0.mk (show k75.R 75 ((w4.setCell ⟨g, i * 5 + 2, none⟩ (.slice A4 ts[i].f2.length c4)).setCell ⟨g, i * 5 + 3, none⟩ (.slice A5 ts[i].f3.length c5)) wr.heap.size (fun _ => True) (.slice A4 ts[i].f2.length c4) ts[i].f2 from hv5)
            have HX5 := Aside0.mk hX5
            have HH5 := Aside0.mk hH5
            have HI5 := Aside0.mk hI5
            rw [HBB.out] at hI5
            have hV5' : k75.R 75 ((w4.setCell ⟨g, i * 5 + 2, none⟩ (.slice A4 ts[i].f2.length c4)).setCell ⟨g, i * 5 + 3, none⟩ (.slice A5 ts[i].f3.length c5)) BB (fun _ => True) (.slice A4 ts[i].f2.length c4) ts[i].f2 := by rw [← HBB.out]; exact hv5
            have hH5' : CopH w ((w4.setCell ⟨g, i * 5 + 2, none⟩ (.slice A4 ts[i].f2.length c4)).setCell ⟨g, i * 5 + 3, none⟩ (.slice A5 ts[i].f3.length c5)) g cu ts i (fun k => if k < BB then f k else i) (fun cv iv => cv = .slice A4 ts[i].f2.length c4 ∧ iv = .slice A5 ts[i].f3.length c5) := by rw [← HBB.out]; exact hH5
            clear hv1 hb3 hbA d2 d3 hv2 hb4 hbB e2 e3 ff2 ff3 hgl4 hv1b hg4 hg5 h2 h3 hfr2 hfr3 x1
            go_wp2_with fail
            go_meet
            exact ⟨rfl, A4, c4, A5, c5, ⟨hH5'⟩, ⟨hV5'⟩, ⟨hX5⟩, ⟨hI5⟩⟩
        case rest =>
          obtain ⟨rfl, A4, c4, A5, c5, HH5, HV5, HX5, HI5⟩ := hcut
          have hwB := HBBL.out
          have hsI := HSM.out.2 _ (List.getElem_mem hlt)
          have hm3 := hsI.2.1
          have HSI := Lib.hid hsI.2.2
          clear hsI h2 h3 hfr2 hfr3 x1 HC1 HC2 HH HX HBR hgl
          obtain ⟨cv, iv, ⟨rfl, rfl⟩, -, y3, -, hg5⟩ := HH5.out.see hlt
          go_wp2_with fail
          clear y3 hg5
          go_loopg [41] ts[i].f3.length (fun gg u41 W => ∃ j : Nat, j ≤ ts[i].f3.length ∧ ts[i].f3.length - j ≤ gg ∧ u41 = .int .i64 j ∧ Aside0 (CopH w W g cu ts i (fun k => if k < BB then f k else i) (fun cv iv => cv = .slice A4 ts[i].f2.length c4 ∧ iv = .slice A5 ts[i].f3.length c5)) ∧ Aside0 (k75.R 75 W BB (fun _ => True) (.slice A4 ts[i].f2.length c4) ts[i].f2) ∧ Aside0 (CopB w W v nx (.slice (some ⟨g, 0, none⟩) ts.length cu)) ∧ Aside0 ((ts[i].f3.length = 0 ∧ k98.R 98 W BB (fun _ => True) (.slice A5 ts[i].f3.length c5) ts[i].f3) ∨ (∃ gi, A5 = some ⟨gi, 0, none⟩ ∧ 0 < ts[i].f3.length ∧ IdxS w W BB gi c5 ts[i].f3 j)))
          case atStart => exact ⟨0, Nat.zero_le _, by omega, rfl, HH5, HV5, HX5, HI5⟩
          case round =>
            clear HH5 HV5 HX5 HI5
            obtain ⟨j, hj, hgj, rfl, HH, HV, HX, HI⟩ := hrel
            by_cases hlj : j < ts[i].f3.length
            · have hljz : (j : Int) < (ts[i].f3.length : Int) := by omega
              have hj0 : (0 : Int) ≤ (j : Int) := by omega
              rcases HI.out with ⟨hz, -⟩ | ⟨gi, hA5, hz, hI⟩
              · omega
              obtain ⟨A6, c6, q2, l6, g6, qf, qgl, cells, hcells⟩ := hI.see hlj
              have hx6 := HSI.out _ (List.getElem_mem hlj)
              have HC3 := Lib.hid (fun (W : World) (hb : Below w.heap.size w W) => clone154 ts[i].f3[j].f2 A6 c6 W (Nat.le_trans hx6 (by decide)) (Kd.C_below g6 hb))
              obtain ⟨cv, iv, ⟨rfl, rfl⟩, -, y3, -, hg5⟩ := HH.out.see hlt
              have HBR6 := Aside0.mk HH.out.below
              have HI6 := Aside0.mk hI
              rw [hA5] at y3
              have HA5 := Lib.hid hA5
              clear hI g6 hx6 hA5 hcells
              go_wp2_with fail
              go_region_law ((go_simp; go_at_call 154; refine (HC3.out _ (below_then HBR6.out HBR6.out.size (below_drew (Below.refl _ _)))).mono ?_; rintro e w7 ⟨v3, rfl, hv3, hb7⟩; obtain ⟨A7, c7, hq7⟩ := Kd.R_slice hv3; subst hq7; have hbC := below_then (below_drew (Below.refl _ wr)) (Nat.le_refl _) hb7; have z2 := pw_cell_below hbC q2; have z3 := pw_cell_below hbC y3; obtain ⟨cs7, hg7, -⟩ := (HI6.out.step hbC).blk; have zf := blk_frozen hg7 (j * 5 + 2); have zl := lt_of_block hg7; clear hg7))
              all_goals
                obtain ⟨cs7, hg7, -⟩ := (HI6.out.step hbC).blk
                have hgiB := HI6.out.base
                have hfi : (fun k => if k < BB then f k else i) gi = i := if_neg (by omega)
                have HI7 := Aside0.mk ((HI6.out.step hbC).put hlj (Kd.R_lower hv3 (Nat.le_trans HI6.out.base (Nat.le_of_lt qgl))))
                have HH7 := Aside0.mk ((HH.out.step hbC).other hg7 (Nat.le_trans hwB hgiB) hfi (j * 5 + 2) (.slice A7 ts[i].f3[j].f2.length c7))
                have HV7 := Aside0.mk (Kd.R_set (Kd.R_below HV.out hbC) hg7 (by decide) (j * 5 + 2) (.slice A7 ts[i].f3[j].f2.length c7))
                have HX7 := Aside0.mk ((HX.out.step hbC).far hg7 (by decide) (j := j * 5 + 2) (.slice A7 ts[i].f3[j].f2.length c7))
                clear hv3 hb7 hbC z2 z3 hg7 zf zl q2 y3 qf HH HV HX HI HI6 hg5 HC3 hfi
                go_wp2
                go_roundg (ts[i].f3.length - (j + 1))
                case measure => omega
                case rel => exact ⟨j + 1, by omega, by omega, by go_num, HH7, HV7, HX7, ⟨.inr ⟨gi, HA5.out, hz, HI7.out⟩⟩⟩
            · have hljz : ¬ (j : Int) < (ts[i].f3.length : Int) := by omega
              have hI : k98.R 98 wr BB (fun _ => True) (.slice A5 ts[i].f3.length c5) ts[i].f3 := by
                rcases HI.out with ⟨hz, h⟩ | ⟨gi, rfl, hz, h⟩
                · exact h
                · obtain rfl : j = ts[i].f3.length := by omega
                  exact h.all
              have hown : ∀ k, BB ≤ k → (fun k => if k < BB then f k else i) k = i := fun k hk => if_neg (by omega)
              have HN := Aside0.mk (HH.out.next hlt (fun cv iv ⟨e1, e2⟩ => by
                subst e1 e2
                exact ⟨Kd.R_lower (Kd.R_mono (Kd.R_bound HV.out) (fun k hk => hown k hk.2.1)) hwB, Kd.R_lower (Kd.R_mono (Kd.R_bound hI) (fun k hk => hown k hk.2.1)) hwB⟩))
              clear hI hown HH HV HI
              go_wp2
              go_roundg (ts.length - (i + 1))
              case measure => omega
              case rel => exact ⟨i + 1, _, by omega, by omega, by go_num, HN, HX⟩
      · have hltz : ¬ (i : Int) < (ts.length : Int) := by omega
        obtain rfl : i = ts.length := by omega
        have hS := HH.out.all
        have hS2 := S_set3 (a := .int .i64 v) (b := .slice (some ⟨g, 0, none⟩) ts.length cu) (c := .int .i64 nx) hS HX.out.b1
        have hb9 := ((HH.out.below.setCell (p := ⟨w.heap.size + 1, 0, none⟩) (show w.heap.size ≤ w.heap.size + 1 by omega) (.int .i64 v)).setCell (p := ⟨w.heap.size + 1, 1, none⟩) (show w.heap.size ≤ w.heap.size + 1 by omega) (.slice (some ⟨g, 0, none⟩) ts.length cu)).setCell (p := ⟨w.heap.size + 1, 2, none⟩) (show w.heap.size ≤ w.heap.size + 1 by omega) (.int .i64 nx)
        have HFIN := Aside0.mk (And.intro hS2 hb9)
        have x0 := blk_cell (j := 0) (v := .int .i64 v) HX.out.b0 rfl
        have x1 := blk_cell (j := 1) (v := .slice (some ⟨g, 0, none⟩) ts.length cu) HX.out.b0 rfl
        have x2 := blk_cell (j := 2) (v := .int .i64 nx) HX.out.b0 rfl
        have c0 := blk_cell (j := 0) (v := .int .i64 0) HX.out.b1 rfl
        have c1 := blk_cell (j := 1) (v := .slice none 0 0) HX.out.b1 rfl
        have c2 := blk_cell (j := 2) (v := .int .i64 0) HX.out.b1 rfl
        have f0 := blk_frozen HX.out.b1 0
        have f1 := blk_frozen HX.out.b1 1
        have f2 := blk_frozen HX.out.b1 2
        clear hS hS2 hb9
        go_wp2
        refine bodyPost_ret (v := .agg #[.int .i64 v, .slice (some ⟨g, 0, none⟩) ts.length cu, .int .i64 nx]) (by simp [results, Tryd.results109, go_sem, c0, c1, c2]) rfl ?_
        exact ⟨_, rfl, HFIN.out.1, HFIN.out.2⟩
end Go.Proofs.YtjgomlcdmpcoaaaDoor.H
