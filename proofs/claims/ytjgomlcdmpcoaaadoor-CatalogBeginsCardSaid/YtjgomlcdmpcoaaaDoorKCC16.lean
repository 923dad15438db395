/- Own texts of this session, packed by its program wip/pp/pack.py: lemmas and walks of functions. -/
import Derived.Lib.Hide
import Derived.OneCell
import Derived.Deep.RegionHeld3
import Derived.Deep.AppendLies
import Derived.Outline
import Derived.IntWalk
import Derived.Deep.RegionLaw
import Derived.Lib.AppendStr
import Derived.Laws.BitsAllLaws
import Derived.Test.YtjgomlcdmpcoaaaDoorKCC3
import Derived.Test.YtjgomlcdmpcoaaaDoorKCC11
import Derived.Test.YtjgomlcdmpcoaaaDoorKCC15
namespace Go.Proofs.YtjgomlcdmpcoaaaDoor.H
open Go.RowKit Go.Proofs.YtjgomlcdmpcoaaaDoorW.PrintWords Go.Proofs.YtjgomlcdmpcoaaaDoorW.PrintLast Go.Proofs.YtjgomlcdmpcoaaaDoorW.PrintMore
set_option linter.unusedVariables false
def WB (T : TypeId) (w : World) (g : Nat) (bs : List Int) : Prop :=
  ∃ v, w.heap[g]? = some (.cells #[v] T (0, 0)) ∧ w.ownsRow (g + 1) 5 1 v bs.length (nums .u8 bs)
structure Wr (g : Nat) (w w' : World) : Prop where
  below : Below g w w'
  block : ∀ i, i < w.heap.size → i ≠ g → (∀ cs fr, w.heap[i]? ≠ some (.cells cs 5 fr)) → w'.heap[i]? = w.heap[i]?
theorem Wr.refl (g : Nat) (w : World) : Wr g w w := ⟨Below.refl _ _, fun _ _ _ _ => rfl⟩
theorem Wr.trans {g : Nat} {a b c : World} (h : Wr g a b) (k : Wr g b c) : Wr g a c :=
  ⟨h.below.trans k.below, fun i hi hne ht => by
    have e := h.block i hi hne ht
    rw [k.block i (Nat.lt_of_lt_of_le hi h.below.size) hne (fun cs fr => by rw [e]; exact ht cs fr), e]⟩
theorem Wr.of_below {g : Nat} {w w' : World} (h : Below w.heap.size w w') (hg : g ≤ w.heap.size) : Wr g w w' := ⟨h.mono hg, fun i hi _ _ => h.block i hi⟩
theorem Wr.cells {g : Nat} {w w' : World} (h : Wr g w w') {i : Nat} {cs : Array Value} {t : TypeId} {fr : Nat × Nat} (hi : w.heap[i]? = some (.cells cs t fr)) (ht : t ≠ 5) (hne : i ≠ g) : w'.heap[i]? = some (.cells cs t fr) := by
  rw [h.block i (lt_of_block hi) hne (fun cs' fr' e => by rw [hi] at e; injection e with e; injection e with _ e _; exact ht e)]
  exact hi
theorem Wr.size {g : Nat} {w w' : World} (h : Wr g w w') : w.heap.size ≤ w'.heap.size := h.below.size
theorem WB.lt {T : TypeId} {w : World} {g : Nat} {bs : List Int} (h : WB T w g bs) : g < w.heap.size := by
  obtain ⟨v, h, _⟩ := h
  exact lt_of_block h
theorem WB.below {T : TypeId} {w w' : World} {g : Nat} {bs : List Int} (h : WB T w g bs) (hb : Below w.heap.size w w') : WB T w' g bs := by
  obtain ⟨v, h1, h2⟩ := h
  exact ⟨v, blk_below h1 hb, pw_own_below h2 hb⟩
theorem blk_cell {w : World} {i j : Nat} {cs : Array Value} {t : TypeId} {fr : Nat × Nat} {v : Value} (hi : w.heap[i]? = some (.cells cs t fr)) (hj : cs[j]? = some v) : w.cell? ⟨i, j, none⟩ = some v := by
  simp [World.cell?, hi, hj]
theorem WB.new (T : TypeId) (w : World) : WB T (w.alloc (.cells #[.slice none 0 0] T)) w.heap.size [] :=
  ⟨_, heap_alloc_new w _, by simp [nums], .inl ⟨rfl, rfl⟩⟩
def e8 (n : Int) : List Int := [n / 72057594037927936 % 256, n / 281474976710656 % 256, n / 1099511627776 % 256, n / 4294967296 % 256, n / 16777216 % 256, n / 65536 % 256, n / 256 % 256, n % 256]
theorem e8_len (n : Int) : (e8 n).length = 8 := rfl
end Go.Proofs.YtjgomlcdmpcoaaaDoor.H
namespace Go.Proofs.YtjgomlcdmpcoaaaDoor.H
open Go.RowKit Go.Proofs.YtjgomlcdmpcoaaaDoorW.PrintWords Go.Proofs.YtjgomlcdmpcoaaaDoorW.PrintLast Go.Proofs.YtjgomlcdmpcoaaaDoorW.PrintMore
open Go.Proofs.YtjgomlcdmpcoaaaDoor.D Go.Proofs.YtjgomlcdmpcoaaaDoor
set_option linter.unusedVariables false
def un64 (n : Int) : Int := n % 18446744073709551616
def tru (b : Bool) : Int := if b then 1 else 0
end Go.Proofs.YtjgomlcdmpcoaaaDoor.H
namespace Go.Proofs.YtjgomlcdmpcoaaaDoor.H
open Go.RowKit Go.Proofs.YtjgomlcdmpcoaaaDoorW.PrintWords Go.Proofs.YtjgomlcdmpcoaaaDoorW.PrintLast Go.Proofs.YtjgomlcdmpcoaaaDoorW.PrintMore
open Go.Proofs.YtjgomlcdmpcoaaaDoor.D Go.Proofs.YtjgomlcdmpcoaaaDoor
set_option linter.unusedVariables false
def tx (s : ByteArray) : List Int := e8 (un64 s.size) ++ bytesOf s
theorem tx_len (s : ByteArray) : (tx s).length = 8 + s.size := by unfold tx; rw [List.length_append, e8_len, bytesOf_length]
end Go.Proofs.YtjgomlcdmpcoaaaDoor.H
namespace Go.Proofs.YtjgomlcdmpcoaaaDoor.H
open Go.RowKit Go.Proofs.YtjgomlcdmpcoaaaDoorW.PrintWords Go.Proofs.YtjgomlcdmpcoaaaDoorW.PrintLast Go.Proofs.YtjgomlcdmpcoaaaDoorW.PrintMore
open Go.Proofs.YtjgomlcdmpcoaaaDoor.D Go.Proofs.YtjgomlcdmpcoaaaDoor
set_option linter.unusedVariables false
set_option linter.unusedSimpArgs false
def colL (x : S75) : List Int := e8 (un64 x.f0) ++ (tx x.f1 ++ (e8 (un64 x.f2) ++ (e8 (un64 x.f3) ++ (e8 (un64 x.f4) ++ (e8 (un64 x.f5.f0) ++ (e8 (un64 x.f5.f1) ++ (e8 x.f5.f2 ++ tx x.f5.f3)))))))
theorem colL_len (x : S75) : (colL x).length = 72 + x.f1.size + x.f5.f3.size := by unfold colL; simp only [List.length_append, e8_len, tx_len]; omega
end Go.Proofs.YtjgomlcdmpcoaaaDoor.H
namespace Go.Proofs.YtjgomlcdmpcoaaaDoor.H
open Go.RowKit Go.Proofs.YtjgomlcdmpcoaaaDoorW.PrintWords Go.Proofs.YtjgomlcdmpcoaaaDoorW.PrintLast Go.Proofs.YtjgomlcdmpcoaaaDoorW.PrintMore
open Go.Proofs.YtjgomlcdmpcoaaaDoor.D Go.Proofs.YtjgomlcdmpcoaaaDoor
set_option linter.unusedVariables false
set_option linter.unusedSimpArgs false
def St (T : TypeId) (g : Nat) (w0 W : World) (cur : List Int) (L : List (Nat × Array Value × TypeId)) : Prop :=
  WB T W g cur ∧ Wr g w0 W ∧ ∀ p ∈ L, p.2.2 ≠ 5 ∧ p.1 ≠ g ∧ W.heap[p.1]? = some (.cells p.2.1 p.2.2 (0, 0))
section
variable {T : TypeId} {g : Nat} {w0 W W2 : World} {cur cur2 : List Int} {L : List (Nat × Array Value × TypeId)} {p : Nat × Array Value × TypeId}
theorem St.step (h : St T g w0 W cur L) (ha : WB T W2 g cur2) (hb : Wr g W W2) : St T g w0 W2 cur2 L :=
  ⟨ha, h.2.1.trans hb, fun p hp => let q := h.2.2 p hp; ⟨q.1, q.2.1, hb.cells q.2.2 q.1 q.2.1⟩⟩
theorem St.lt (h : St T g w0 W cur L) : g < W.heap.size := h.1.lt
theorem St.box (h : St T g w0 W cur L) (cs : Array Value) (t : TypeId) (ht : t ≠ 5) : St T g w0 (W.alloc (.cells cs t)) cur ((W.heap.size, cs, t) :: L) := by
  have hb := below_alloc (Below.refl _ W) (.cells cs t)
  refine ⟨h.1.below hb, h.2.1.trans (Wr.of_below hb (Nat.le_of_lt h.1.lt)), fun p hp => ?_⟩
  rcases List.mem_cons.1 hp with rfl | hp
  · exact ⟨ht, (Nat.ne_of_lt h.1.lt).symm, heap_alloc_new W _⟩
  · have q := h.2.2 p hp
    exact ⟨q.1, q.2.1, blk_alloc q.2.2 _⟩
end
def colsL (l : List S75) : List Int := l.flatMap colL
def intL (n : Int) : List Int := e8 (un64 n)
def intsL (l : List Int) : List Int := l.flatMap intL
def indL (x : S98) : List Int := e8 (un64 x.f0) ++ (tx x.f1 ++ (e8 (un64 x.f2.length) ++ (intsL x.f2 ++ (e8 (tru x.f3) ++ e8 (un64 x.f4)))))
def indsL (l : List S98) : List Int := l.flatMap indL
def tabL (t : S70) : List Int := e8 (un64 t.f0) ++ (tx t.f1 ++ (e8 (un64 t.f2.length) ++ (colsL t.f2 ++ (e8 (un64 t.f3.length) ++ (indsL t.f3 ++ e8 (un64 t.f4))))))
theorem indL_len (x : S98) : (indL x).length = 40 + x.f1.size + (intsL x.f2).length := by unfold indL; simp only [List.length_append, e8_len, tx_len]; omega
theorem tabL_len (t : S70) : (tabL t).length = 40 + t.f1.size + (colsL t.f2).length + (indsL t.f3).length := by unfold tabL; simp only [List.length_append, e8_len, tx_len]; omega
end Go.Proofs.YtjgomlcdmpcoaaaDoor.H
namespace Go.Proofs.YtjgomlcdmpcoaaaDoor.H
open Go.RowKit Go.Proofs.YtjgomlcdmpcoaaaDoorW.PrintWords Go.Proofs.YtjgomlcdmpcoaaaDoorW.PrintLast Go.Proofs.YtjgomlcdmpcoaaaDoorW.PrintMore
set_option linter.unusedVariables false
def cr1 (c : Int) : Int := if (bits .and .u32 c 1 == 1) = true then bits .xor .u32 (c / 2) 2197175160 else c / 2
def crN : Nat → Int → Int
  | 0, c => c
  | n + 1, c => crN n (cr1 c)
def crB (c b : Int) : Int := crN 8 (bits .xor .u32 c (b % 4294967296))
def crL (c : Int) (l : List UInt8) : Int := l.foldl (fun c b => crB c (b.toNat : Int)) c
def sumI (s : ByteArray) : Int := bits .xor .u32 IntKind.u32.max (crL 4294967295 s.data.toList)
end Go.Proofs.YtjgomlcdmpcoaaaDoor.H
namespace Go.Proofs.YtjgomlcdmpcoaaaDoor.H
open Go.RowKit Go.Proofs.YtjgomlcdmpcoaaaDoorW.PrintWords Go.Proofs.YtjgomlcdmpcoaaaDoorW.PrintLast Go.Proofs.YtjgomlcdmpcoaaaDoorW.PrintMore
set_option linter.unusedVariables false
def four (c : Int) : List Int := [c / 16777216, c / 65536 % 256, c / 256 % 256, c % 256]
def sealB (s : ByteArray) : ByteArray := s ++ strOfNums (four (sumI s))
end Go.Proofs.YtjgomlcdmpcoaaaDoor.H
namespace Go.Proofs.YtjgomlcdmpcoaaaDoor.H
open Go.RowKit Go.Proofs.YtjgomlcdmpcoaaaDoorW.PrintWords Go.Proofs.YtjgomlcdmpcoaaaDoorW.PrintLast Go.Proofs.YtjgomlcdmpcoaaaDoorW.PrintMore
open Go.Proofs.YtjgomlcdmpcoaaaDoor.D Go.Proofs.YtjgomlcdmpcoaaaDoor
set_option linter.unusedVariables false
set_option linter.unusedSimpArgs false
def tabsL (l : List S70) : List Int := l.flatMap tabL
def putL (v : Int) (ts : List S70) (nx : Int) : List Int := e8 (un64 v) ++ (e8 (un64 ts.length) ++ (tabsL ts ++ e8 (un64 nx)))
theorem putL_len (v : Int) (ts : List S70) (nx : Int) : (putL v ts nx).length = 24 + (tabsL ts).length := by unfold putL; simp only [List.length_append, e8_len]; omega
theorem nameB_size {s : ByteArray} (h : nameB s = true) : s.size ≤ 16 := by
  rw [nameB_if] at h
  simp only [Bool.and_eq_true, decide_eq_true_eq] at h
  exact h.2.1
theorem toList_size {s : ByteArray} (h : s.toList = []) : s.size = 0 := by
  rw [ByteArray.toList_eq] at h
  have : s.data.toList.length = 0 := by rw [h]; rfl
  rw [Array.length_toList] at this
  exact this
theorem valB_size {v : S73} (h : valB v = true) : v.f3.size ≤ 40 := by
  unfold valB mayB at h
  repeat' split at h
  all_goals simp only [Bool.and_eq_true, beq_iff_eq, decide_eq_true_eq, Bool.false_eq_true] at h
  all_goals first
    | (have := toList_size h.2.2; omega)
    | (have := toList_size h.2; omega)
    | exact h.1
theorem columnB_len {c : S75} (h : columnB c = true) : (colL c).length ≤ 128 := by
  unfold columnB at h
  simp only [Bool.and_eq_true] at h
  have h1 := nameB_size h.1
  have h2 := valB_size h.2.2.2.2.2.1
  rw [colL_len]
  omega
theorem fm_max {α : Type} (f : α → List Int) (m : Nat) : ∀ l : List α, (∀ x ∈ l, (f x).length ≤ m) → (l.flatMap f).length ≤ l.length * m
  | [], _ => by simp
  | x :: l, h => by
    have h1 := fm_max f m l (fun y hy => h y (List.mem_cons_of_mem _ hy))
    have h2 := h x List.mem_cons_self
    rw [List.flatMap_cons, List.length_append, List.length_cons, Nat.succ_mul]
    omega
theorem indexB_len {t : S70} {x : S98} (h : indexB t x = true) : (indL x).length ≤ 120 := by
  unfold indexB at h
  simp only [Bool.and_eq_true, decide_eq_true_eq] at h
  have h1 := nameB_size h.1
  have h2 : (intsL x.f2).length ≤ x.f2.length * 8 := fm_max intL 8 x.f2 (fun y _ => Nat.le_refl _)
  have h3 := h.2.2.1
  rw [indL_len]
  omega
theorem tcolsB_all {next : Int} : ∀ (l : List S75) (ids : List Int) (ns : List (List UInt8)), tcolsB next ids ns l = true → ∀ c ∈ l, columnB c = true
  | [], _, _, _, c, hc => by cases hc
  | x :: l, ids, ns, h, c, hc => by
    unfold tcolsB at h
    simp only [Bool.and_eq_true] at h
    rcases List.mem_cons.1 hc with rfl | hc
    · exact h.2.2.1
    · exact tcolsB_all l _ _ h.2.2.2 c hc
theorem tindsB_all {t : S70} : ∀ (l : List S98) (ids : List Int) (ns : List (List UInt8)), tindsB t ids ns l = true → ∀ c ∈ l, indexB t c = true
  | [], _, _, _, c, hc => by cases hc
  | x :: l, ids, ns, h, c, hc => by
    unfold tindsB at h
    simp only [Bool.and_eq_true] at h
    rcases List.mem_cons.1 hc with rfl | hc
    · exact h.2.2.1
    · exact tindsB_all l _ _ h.2.2.2 c hc
theorem tableB_len {t : S70} (h : tableB t = true) : (tabL t).length ≤ 2000 := by
  unfold tableB at h
  simp only [Bool.and_eq_true, decide_eq_true_eq] at h
  obtain ⟨_, _, _, h4, h5, h6, h7, h8, _⟩ := h
  have a1 := nameB_size h6
  have a2 : (colsL t.f2).length ≤ t.f2.length * 128 := fm_max colL 128 t.f2 (fun c hc => columnB_len (tcolsB_all _ _ _ h7 c hc))
  have a3 : (indsL t.f3).length ≤ t.f3.length * 120 := fm_max indL 120 t.f3 (fun c hc => indexB_len (tindsB_all _ _ _ h8 c hc))
  rw [tabL_len]
  omega
theorem tabsB_all {nx : Int} : ∀ (l : List S70) (last : Int) (ns : List (List UInt8)), tabsB nx last ns l = true → ∀ t ∈ l, tableB t = true
  | [], _, _, _, c, hc => by cases hc
  | x :: l, ids, ns, h, c, hc => by
    unfold tabsB at h
    simp only [Bool.and_eq_true] at h
    rcases List.mem_cons.1 hc with rfl | hc
    · exact h.2.2.2.1
    · exact tabsB_all l _ _ h.2.2.2.2 c hc
theorem schB_len {v : Int} {ts : List S70} {nx : Int} (h : schB v ts nx = true) : (putL v ts nx).length ≤ 10000 ∧ ts.length ≤ 4 := by
  unfold schB at h
  simp only [Bool.and_eq_true, decide_eq_true_eq] at h
  obtain ⟨_, _, _, _, h5, h6⟩ := h
  have a2 : (tabsL ts).length ≤ ts.length * 2000 := fm_max tabL 2000 ts (fun c hc => tableB_len (tabsB_all _ _ _ h6 c hc))
  rw [putL_len]
  omega
def putS (v : Int) (ts : List S70) (nx : Int) : ByteArray := if schB v ts nx = true then sealB (strOfNums (putL v ts nx)) else ⟨#[]⟩
end Go.Proofs.YtjgomlcdmpcoaaaDoor.H
namespace Go.Proofs.YtjgomlcdmpcoaaaDoor.H
open Go.RowKit Go.Proofs.YtjgomlcdmpcoaaaDoorW.PrintWords Go.Proofs.YtjgomlcdmpcoaaaDoorW.PrintLast Go.Proofs.YtjgomlcdmpcoaaaDoorW.PrintMore
open Go.Proofs.YtjgomlcdmpcoaaaDoor.D Go.Proofs.YtjgomlcdmpcoaaaDoor
set_option linter.unusedVariables false
set_option linter.unusedSimpArgs false
theorem tableB_lens {t : S70} (h : tableB t = true) : 1 ≤ t.f2.length ∧ t.f2.length ≤ 8 ∧ t.f3.length ≤ 4 ∧ ∀ x ∈ t.f3, 1 ≤ x.f2.length ∧ x.f2.length ≤ 8 := by
  unfold tableB at h
  simp only [Bool.and_eq_true, decide_eq_true_eq] at h
  obtain ⟨_, _, h3, h4, h5, h6, h7, h8, _⟩ := h
  refine ⟨h3, h4, h5, fun x hx => ?_⟩
  have := tindsB_all _ _ _ h8 x hx
  unfold indexB at this
  simp only [Bool.and_eq_true, decide_eq_true_eq] at this
  exact ⟨this.2.1, this.2.2.1⟩
theorem schB_tab {v : Int} {ts : List S70} {nx : Int} (h : schB v ts nx = true) : ∀ t ∈ ts, tableB t = true := by
  unfold schB at h
  simp only [Bool.and_eq_true, decide_eq_true_eq] at h
  exact tabsB_all _ _ _ h.2.2.2.2.2
end Go.Proofs.YtjgomlcdmpcoaaaDoor.H
namespace Go.Proofs.YtjgomlcdmpcoaaaDoor.H
open Go.RowKit Go.Proofs.YtjgomlcdmpcoaaaDoorW.PrintWords Go.Proofs.YtjgomlcdmpcoaaaDoorW.PrintLast Go.Proofs.YtjgomlcdmpcoaaaDoorW.PrintMore
open Go.Proofs.YtjgomlcdmpcoaaaDoor.D Go.Proofs.YtjgomlcdmpcoaaaDoor
set_option linter.unusedVariables false
set_option linter.unusedSimpArgs false
def Small (ts : List S70) : Prop := ts.length ≤ 100 ∧ ∀ t ∈ ts, t.f2.length ≤ 100 ∧ t.f3.length ≤ 100 ∧ ∀ x ∈ t.f3, x.f2.length ≤ 100
structure CopySt (w wr : World) (bx : Array Value) (v nx : Int) (u : Value) (l : List S70) : Prop where
  below : Below w.heap.size w wr
  b0 : wr.heap[w.heap.size]? = some (.cells bx 28 (0, 0))
  b1 : wr.heap[w.heap.size + 1]? = some (.cells #[.int .i64 0, .slice none 0 0, .int .i64 0] 28 (0, 0))
  b2 : wr.heap[w.heap.size + 1 + 1]? = some (.cells #[.int .i64 v, u, .int .i64 nx] 28 (0, 0))
  s : Kd.S k70 70 wr w.heap.size (fun _ => True) u l
theorem CopySt.new (w : World) (bx : Array Value) (v nx : Int) : CopySt w (((w.alloc (.cells bx 28)).alloc (.cells #[.int .i64 0, .slice none 0 0, .int .i64 0] 28)).alloc (.cells #[.int .i64 v, .slice none 0 0, .int .i64 nx] 28)) bx v nx (.slice none 0 0) [] := by
  have h1 := heap_alloc_new w (.cells bx 28)
  have h2 := heap_alloc_new (w.alloc (.cells bx 28)) (.cells #[.int .i64 0, .slice none 0 0, .int .i64 0] 28)
  have h3 := heap_alloc_new ((w.alloc (.cells bx 28)).alloc (.cells #[.int .i64 0, .slice none 0 0, .int .i64 0] 28)) (.cells #[.int .i64 v, .slice none 0 0, .int .i64 nx] 28)
  have e1 : (w.alloc (.cells bx 28)).heap.size = w.heap.size + 1 := by simp
  have e2 : ((w.alloc (.cells bx 28)).alloc (.cells #[.int .i64 0, .slice none 0 0, .int .i64 0] 28)).heap.size = w.heap.size + 1 + 1 := by simp
  rw [e1] at h2
  rw [e2] at h3
  exact ⟨below_alloc (below_alloc (below_alloc (Below.refl _ _) _) _) _, blk_alloc (blk_alloc h1 _) _, blk_alloc h2 _, h3, Kd.S_nil _ _ _ _ _⟩
structure CopyIt (wr W : World) (t : S70) (cv iv : Value) (xs : List S98) : Prop where
  below : Below wr.heap.size wr W
  box : W.heap[wr.heap.size]? = some (.cells #[.int .i64 t.f0, .string t.f1, cv, iv, .int .i64 t.f4] 70 (0, 0))
  cols : k75.R 75 W wr.heap.size (fun _ => True) cv t.f2
  inds : k98.R 98 W wr.heap.size (fun _ => True) iv xs
section
variable {wr W W' : World} {t : S70} {cv iv : Value} {xs : List S98}
theorem CopyIt.step (h : CopyIt wr W t cv iv xs) (hb : Below W.heap.size W W') : CopyIt wr W' t cv iv xs :=
  ⟨below_then h.below h.below.size hb, blk_below h.box hb, Kd.R_below h.cols hb, Kd.R_below h.inds hb⟩
theorem CopyIt.start {cv0 iv0 : Value} (hb : Below wr.heap.size wr W) (hx : W.heap[wr.heap.size]? = some (.cells #[.int .i64 t.f0, .string t.f1, cv0, iv0, .int .i64 t.f4] 70 (0, 0))) (hc : k75.R 75 W wr.heap.size (fun _ => True) cv t.f2) :
    CopyIt wr ((W.setCell ⟨wr.heap.size, 2, none⟩ cv).setCell ⟨wr.heap.size, 3, none⟩ (.slice none 0 0)) t cv (.slice none 0 0) [] := by
  have h1 := blk_put hx 2 cv rfl
  exact ⟨(hb.setCell (Nat.le_refl _) _).setCell (Nat.le_refl _) _, blk_put h1 3 _ rfl, Kd.R_set (Kd.R_set hc hx (by decide) 2 _) h1 (by decide) 3 _, Kd.R_nil _ _ _ _ _⟩
theorem CopyIt.next {W1 : World} {iv1 : Value} {x : S98} (h : CopyIt wr W t cv iv xs) (hb : Below wr.heap.size wr W1) (hg : W.grownBy W1 iv.ownBlock) (hi : k98.R 98 W1 wr.heap.size (fun _ => True) iv1 (xs ++ [x])) :
    CopyIt wr (W1.setCell ⟨wr.heap.size, 3, none⟩ iv1) t cv iv1 (xs ++ [x]) := by
  have hx := blk_grown h.box hg (Kd.R_ne h.inds h.box (by decide))
  have hc : k75.R 75 W1 wr.heap.size (fun _ => True) cv t.f2 := Kd.R_over' h.cols (Kd.R_typed h.inds) (by decide) hg
  exact ⟨hb.setCell (Nat.le_refl _) _, blk_put hx 3 _ rfl, Kd.R_set hc hx (by decide) 3 _, Kd.R_set hi hx (by decide) 3 _⟩
end
theorem CopySt.step {w wr W : World} {bx : Array Value} {v nx : Int} {u : Value} {l : List S70} (h : CopySt w wr bx v nx u l) (hb : Below wr.heap.size wr W) : CopySt w W bx v nx u l :=
  ⟨below_then h.below h.below.size hb, blk_below h.b0 hb, blk_below h.b1 hb, blk_below h.b2 hb, Kd.S_below h.s hb⟩
theorem CopySt.next {w wr W W1 : World} {bx : Array Value} {v nx : Int} {u u1 : Value} {l : List S70} {t : S70} (h : CopySt w wr bx v nx u l) (hb : Below wr.heap.size wr W) (hW : Below w.heap.size w W1) (hg : W.grownBy W1 u.ownBlock) (hs : Kd.S k70 70 W1 w.heap.size (fun _ => True) u1 (l ++ [t])) :
    CopySt w (W1.setCell ⟨w.heap.size + 1 + 1, 1, none⟩ u1) bx v nx u1 (l ++ [t]) := by
  have h' := h.step hb
  have ne : ∀ {g : Nat} {cs : Array Value}, W.heap[g]? = some (.cells cs 28 (0, 0)) → some g ≠ u.ownBlock := fun hx => Kd.S_ne h'.s hx (by decide)
  have x0 := blk_grown h'.b0 hg (ne h'.b0)
  have x1 := blk_grown h'.b1 hg (ne h'.b1)
  have x2 := blk_grown h'.b2 hg (ne h'.b2)
  exact ⟨hW.setCell (by show w.heap.size ≤ w.heap.size + 1 + 1; omega) _, blk_far x0 (by show w.heap.size ≠ w.heap.size + 1 + 1; omega) _, blk_far x1 (by show w.heap.size + 1 ≠ w.heap.size + 1 + 1; omega) _, blk_put x2 1 _ rfl, Kd.S_set hs x2 (by decide) 1 _⟩
theorem CopySt.done {w wo : World} {bx : Array Value} {v nx : Int} {u : Value} {l : List S70} (h : CopySt w wo bx v nx u l) (a b c : Value) :
    Kd.S k70 70 (((wo.setCell ⟨w.heap.size + 1, 0, none⟩ a).setCell ⟨w.heap.size + 1, 1, none⟩ b).setCell ⟨w.heap.size + 1, 2, none⟩ c) w.heap.size (fun _ => True) u l ∧
      Below w.heap.size w (((wo.setCell ⟨w.heap.size + 1, 0, none⟩ a).setCell ⟨w.heap.size + 1, 1, none⟩ b).setCell ⟨w.heap.size + 1, 2, none⟩ c) := by
  have h1 := blk_put h.b1 0 a rfl
  have h2 := blk_put h1 1 b rfl
  exact ⟨Kd.S_set (Kd.S_set (Kd.S_set h.s h.b1 (by decide) 0 a) h1 (by decide) 1 b) h2 (by decide) 2 c, ((h.below.setCell (Nat.le_succ _) _).setCell (Nat.le_succ _) _).setCell (Nat.le_succ _) _⟩
set_option maxRecDepth 100000 in
set_option maxHeartbeats 4000000 in
theorem copy_calls (v : Int) (ts : List S70) (nx : Int) (hs : Small ts) (A : Option Addr) (c : Nat) (w : World) (hc : ts.length ≤ c) (g2 : k70.C w A ts.length ts) :
    Calls Tryd.prog 48 #[.agg #[.int .i64 v, .slice A ts.length c, .int .i64 nx]] w fun e w' => ∃ u, e = .returned (.agg #[.int .i64 v, u, .int .i64 nx]) ∧ Kd.S k70 70 w' w.heap.size (fun _ => True) u ts ∧ Below w.heap.size w w' := by
  have HC := Aside0.mk g2
  have HS := Aside0.mk hs
  have hn := hs.1
  have HT := Aside0.mk (CopySt.new w #[.int .i64 v, .slice A ts.length c, .int .i64 nx] v nx)
  clear g2 hs
  go_enter Tryd.func48, Tryd.ntmps48
  go_wp2
  go_loopg [4] ts.length (fun gg u4 wr => ∃ kk : Nat, ∃ u : Value, kk ≤ ts.length ∧ ts.length - kk ≤ gg ∧ u4 = .int .i64 kk ∧ Aside0 (CopySt w wr #[.int .i64 v, .slice A ts.length c, .int .i64 nx] v nx u (ts.take kk)))
  case atStart => exact ⟨0, _, Nat.zero_le _, by omega, rfl, HT⟩
  case round =>
    clear HT
    obtain ⟨kk, u, hkk, hgk, rfl, HR⟩ := hrel
    obtain ⟨wo, rfl⟩ : ∃ wo : World, wo = wr := ⟨_, rfl⟩
    have k1 := (blk_cell HR.out.b0 (j := 1) (v := .slice A ts.length c)) rfl
    by_cases hlt : kk < ts.length
    · have hltz : (kk : Int) < (ts.length : Int) := by omega
      have hBW := HR.out.below
      obtain ⟨ad, A2, c2, A3, c3, eA, h0, h1, h2, h3, h4, hd2, hcols, hd3, hinds⟩ := at_T70 HC.out (kk : Int) (by omega) (by omega)
      have hx : rd_T70 ts (kk : Int) = ts[kk] := rd70 _ _ hlt
      rw [hx] at h0 h1 h2 h3 h4 hd2 hcols hd3 hinds
      simp only [Int.toNat_natCast] at h0 h1 h2 h3 h4
      have H3 := Aside0.mk h3
      replace h0 := pw_cell_below hBW h0
      replace h1 := pw_cell_below hBW h1
      replace h2 := pw_cell_below hBW h2
      replace h3 := pw_cell_below hBW h3
      replace h4 := pw_cell_below hBW h4
      cases eA
      have hS := (HS.out.2 _ (List.getElem_mem hlt))
      have hT := Lib.hid (List.take_succ_eq_append_getElem hlt)
      generalize ts[kk] = t at h0 h1 h2 h3 h4 hd2 hcols hd3 hinds hS hT H3
      have HI2 := Aside0.mk hcols
      have HI3 := Aside0.mk hinds
      have hl2 := hS.1
      have hl3 := hS.2.1
      have HS2 := Aside0.mk hS.2.2
      have HX0 := Aside0.mk (heap_alloc_new wo (.cells #[.int .i64 t.f0, .string t.f1, .slice A2 t.f2.length c2, .slice A3 t.f3.length c3, .int .i64 t.f4] 70))
      clear hx hcols hinds hBW hS
      go_wp2_with (first
        | ((with_reducible refine gate_dst (N := 22) rfl ?_); refine Kd.R_lit k75 (w0 := wo) wo.heap.size 75 ?hg (N := 22) ?hd (xs := ([] : List S75)) (inner := []) (ok := fun _ => True) (okp := fun _ => True) ?hr (Reps.none _ _) (fun _ hk => hk) trivial (below_alloc (Below.refl _ _) _) (by simp) (by simp) ?_; (case hd => rfl); (case hg => rfl); (case hr => first | (go_simp; done) | (go_simp; rfl)); intro v1 w1 ho1 hb1 hg1 hn1; have HV := Aside0.mk ho1; have HB1 := Aside0.mk hb1; have HX1 := Aside0.mk (blk_grown HX0.out hg1 (by simp)); have a2 := blk_cell (j := 2) (v := .slice A2 t.f2.length c2) HX1.out rfl; clear ho1 hb1 hg1 hn1)
        | ((with_reducible refine gate_builtin (b := .append) (xs := #[.tmp 22, .tmp 24]) rfl ?_); at_builtin; refine Kd.R_append_rows k75 (w0 := wo) wo.heap.size rfl (.tmp 22) (.tmp 24) 67 75 (.agg #[(.int .i64 0), (.string ⟨#[]⟩), (.int .i64 0), (.int .i64 0), (.int .i64 0), (.int .i64 0), (.int .i64 0), (.int .u64 0), (.string ⟨#[]⟩)]) 88 rfl Tryd.underlying67 info75 rfl (by decide) (by omega) v1 [] t.f2 _ _ _ (fun _ => True) (fun _ => False) rfl rfl HV.out (Kd.C_below HI2.out (below_then HR.out.below HR.out.below.size HB1.out)) (fun _ _ h => h) (fun _ h => h.elim) (fun _ _ => trivial) HB1.out HB1.out.size (by simp only [List.length_nil]; omega) ?_; intro v2 w2 ho2 hb2 hg2 hat2; rw [List.nil_append] at ho2; have HX2 := Aside0.mk (blk_grown HX1.out hg2 (Kd.R_ne HV.out HX1.out (by decide))); obtain ⟨Ac, cc, hcv⟩ := Kd.R_slice ho2; subst hcv; have HI := Aside0.mk (CopyIt.start hb2 HX2.out ho2); have f2 := blk_frozen HX2.out 2; have f3 := blk_frozen HX2.out 3; have b2 := blk_cell (j := 2) (v := .slice A2 t.f2.length c2) HX2.out rfl; have b3 := blk_cell (j := 3) (v := .slice A3 t.f3.length c3) HX2.out rfl; clear ho2 hb2 hg2 hat2 a2))
      clear f2 f3 b2 b3 h0 h1 h2 h3 h4 k1
      try clear HX0 HX1 HX2 HB1 HV
      go_loopg [6] t.f3.length (fun gg u6 W => ∃ j : Nat, ∃ iv : Value, j ≤ t.f3.length ∧ t.f3.length - j ≤ gg ∧ u6 = .int .i64 j ∧ Aside0 (CopyIt wo W t (.slice Ac t.f2.length cc) iv (t.f3.take j)))
      case atStart => exact ⟨0, _, Nat.zero_le _, by omega, rfl, HI⟩
      case round =>
        clear HI
        obtain ⟨j, iv, hjk, hgj, rfl, HI⟩ := hrel
        have hBW := Aside0.mk (below_then HR.out.below HR.out.below.size HI.out.below)
        have k1 := (blk_cell (HR.out.step HI.out.below).b0 (j := 1) (v := .slice (some ad) ts.length c)) rfl
        have h3 := pw_cell_below hBW.out H3.out
        by_cases hjt : j < t.f3.length
        · have hjz : (j : Int) < (t.f3.length : Int) := by omega
          obtain ⟨ae, A5, c5, eA5, e0, e1, e2, e3, e4, hd5, hint⟩ := at_T98 HI3.out (j : Int) (by omega) (by omega)
          have hx : rd_T98 t.f3 (j : Int) = t.f3[j] := rd98 _ _ hjt
          rw [hx] at e0 e1 e2 e3 e4 hd5 hint
          simp only [Int.toNat_natCast] at e0 e1 e2 e3 e4
          replace e0 := pw_cell_below hBW.out e0
          replace e1 := pw_cell_below hBW.out e1
          replace e2 := pw_cell_below hBW.out e2
          replace e3 := pw_cell_below hBW.out e3
          replace e4 := pw_cell_below hBW.out e4
          cases eA5
          have hl5 := HS2.out _ (List.getElem_mem hjt)
          have hTj := Lib.hid (List.take_succ_eq_append_getElem hjt)
          generalize t.f3[j] = x at e0 e1 e2 e3 e4 hd5 hint hl5 hTj
          have HI5 := Aside0.mk hint
          have HZ0 := Aside0.mk (heap_alloc_new wr (.cells #[.int .i64 x.f0, .string x.f1, .slice A5 x.f2.length c5, .bool x.f3, .int .i64 x.f4] 98))
          have HLJ := Lib.hid (show (t.f3.take j).length = j by rw [List.length_take]; omega)
          clear hx hint
          go_wp2_with (first
            | ((with_reducible refine gate_dst (N := 48) rfl ?_); refine Kd.R_lit (Kd.int .i64) (w0 := wr) wr.heap.size 3 ?hg (N := 48) ?hd (xs := ([] : List Int)) (inner := []) (ok := fun _ => True) (okp := fun _ => True) ?hr (Reps.none _ _) (fun _ hk => hk) trivial (below_alloc (Below.refl _ _) _) (by simp) (by simp) ?_; (case hd => rfl); (case hg => rfl); (case hr => first | (go_simp; done) | (go_simp; rfl)); intro v1 w1 ho1 hb1 hg1 hn1; have HV := Aside0.mk ho1; have HB1 := Aside0.mk hb1; have HZ1 := Aside0.mk (blk_grown HZ0.out hg1 (by simp)); have a2 := blk_cell (j := 2) (v := .slice A5 x.f2.length c5) HZ1.out rfl; clear ho1 hb1 hg1 hn1)
            | ((with_reducible refine gate_builtin (b := .append) (xs := #[.tmp 48, .tmp 50]) rfl ?_); at_builtin; refine Kd.R_append_rows (Kd.int .i64) (w0 := wr) wr.heap.size rfl (.tmp 48) (.tmp 50) 40 3 (.int .i64 0) 8 rfl Tryd.underlying40 info3 rfl (by decide) (by omega) v1 [] x.f2 _ _ _ (fun _ => True) (fun _ => False) rfl rfl HV.out (Kd.C_below HI5.out (below_then hBW.out hBW.out.size HB1.out)) (fun _ _ h => h) (fun _ h => h.elim) (fun _ _ => trivial) HB1.out HB1.out.size (by simp only [List.length_nil]; omega) ?_; intro v2 w2 ho2 hb2 hg2 hat2; rw [List.nil_append] at ho2; have hz2 := blk_grown HZ1.out hg2 (Kd.R_ne HV.out HZ1.out (by decide)); obtain ⟨Ai, ci, hiv⟩ := Kd.R_slice ho2; subst hiv; have hz3 := blk_put hz2 2 (.slice Ai x.f2.length ci) rfl; have HB5 := Aside0.mk (hb2.setCell (p := ⟨wr.heap.size, 2, none⟩) (Nat.le_refl _) (.slice Ai x.f2.length ci)); have HN := Aside0.mk (HI.out.step HB5.out); have hi2 := HI.out.step hb2; have b3 := blk_cell (j := 3) (v := iv) hi2.box rfl; have HSZ := Lib.hid (show (w2.setCell ⟨wr.heap.size, 2, none⟩ (.slice Ai x.f2.length ci)).heap.size = w2.heap.size by simp); have hq1 : wo.heap.size ≠ wr.heap.size := blk_ne hi2.box hz2 (by decide); have hq2 : wr.heap.size ≠ wo.heap.size := Ne.symm hq1; have z0 := blk_cell (j := 0) (v := .int .i64 x.f0) hz2 rfl; have z1 := blk_cell (j := 1) (v := .string x.f1) hz2 rfl; have z3 := blk_cell (j := 3) (v := .bool x.f3) hz2 rfl; have z4 := blk_cell (j := 4) (v := .int .i64 x.f4) hz2 rfl; have HR5 := Aside0.mk (Kd.R_set ho2 hz2 (by decide) 2 (.slice Ai x.f2.length ci)); have f2 := blk_frozen hz2 2; have b2 := blk_cell (j := 2) (v := .slice A5 x.f2.length c5) hz2 rfl; have HZ3 := Aside0.mk hz3; clear ho2 hb2 hg2 hat2 a2 hz2 hz3 hi2)
            | ((with_reducible refine gate_builtin (b := .append) (xs := #[.tmp 54, .tmp 56]) rfl ?_); at_builtin; refine Kd.R_append k98 (w0 := wo) wo.heap.size rfl (.tmp 54) (.tmp 56) 68 98 (.agg #[(.int .i64 0), (.string ⟨#[]⟩), (.slice none 0 0), (.bool false), (.int .i64 0)]) 64 rfl Tryd.underlying68 info98 rfl (by decide) (by omega) iv (t.f3.take j) x [.int .i64 x.f0, .string x.f1, .slice Ai x.f2.length ci, .bool x.f3, .int .i64 x.f4] (fun _ => True) (fun k => wr.heap.size ≤ k) rfl ?aX ?aP ?aK (fun _ _ => trivial) HN.out.inds HN.out.below HN.out.below.size (by rw [HLJ.out]; omega) ?_; (case aX => rw [HSZ.out]; rfl); (case aP => exact k98_mkM _ _ _ x (Kd.R_lower (Kd.R_mono (Kd.R_bound HR5.out) (fun k hk => hk.2.1)) HI.out.below.size)); (case aK => exact fun k hk => ⟨trivial, fun he => by have := Kd.R_lt HI.out.inds k he.symm; omega⟩); intro v6 w6 ho6 hb6 hg6 hat6; obtain ⟨A6, c6, h6⟩ := Kd.R_slice ho6; rw [show (t.f3.take j ++ [x]).length = j + 1 by rw [List.length_append, HLJ.out]; rfl] at h6; subst h6; have hx6 := blk_grown HN.out.box hg6 (Kd.R_ne HN.out.inds HN.out.box (by decide)); have HF := Aside0.mk (HN.out.next hb6 hg6 ho6); have f6 := blk_frozen hx6 3; have b6 := blk_cell (j := 3) (v := iv) hx6 rfl; clear ho6 hb6 hg6 hat6 hx6 b2 b3 f2 z0 z1 z3 z4))
          go_roundg (t.f3.length - (j + 1))
          case measure => omega
          case rel => exact ⟨j + 1, _, by omega, by omega, by go_num, ⟨by rw [hTj.out]; exact HF.out⟩⟩
        · have hjz : ¬ (j : Int) < (t.f3.length : Int) := by omega
          have hI := HI.out
          rw [List.take_of_length_le (by omega)] at hI
          have HN := Aside0.mk hI
          have HSt := Aside0.mk (HR.out.step hI.below)
          have y0 := blk_cell (j := 1) (v := u) HSt.out.b2 rfl
          have z0 := blk_cell (j := 0) (v := .int .i64 t.f0) hI.box rfl
          have z1 := blk_cell (j := 1) (v := .string t.f1) hI.box rfl
          have z2 := blk_cell (j := 2) (v := .slice Ac t.f2.length cc) hI.box rfl
          have z3 := blk_cell (j := 3) (v := iv) hI.box rfl
          have z4 := blk_cell (j := 4) (v := .int .i64 t.f4) hI.box rfl
          have HLK := Lib.hid (show (ts.take kk).length = kk by rw [List.length_take]; omega)
          have HBA := Aside0.mk (below_then HR.out.below HR.out.below.size hI.below)
          clear hI HI
          go_wp2_with ((with_reducible refine gate_builtin (b := .append) (xs := #[.tmp 60, .tmp 62]) rfl ?_); at_builtin; refine Kd.S_append k70 (w0 := w) w.heap.size rfl (.tmp 60) (.tmp 62) 26 70 (.agg #[(.int .i64 0), (.string ⟨#[]⟩), (.slice none 0 0), (.slice none 0 0), (.int .i64 0)]) 80 rfl Tryd.underlying26 info70 rfl (by decide) (by omega) u (ts.take kk) t [.int .i64 t.f0, .string t.f1, .slice Ac t.f2.length cc, iv, .int .i64 t.f4] (fun _ => True) (fun k => wo.heap.size ≤ k) rfl rfl ?aP ?aK (fun _ _ => trivial) ?aO HBA.out HBA.out.size (by rw [HLK.out]; omega) ?_; (case aP => exact k70_mkM _ _ _ t (Kd.R_lower (Kd.R_mono (Kd.R_bound HN.out.cols) (fun k hk => hk.2.1)) HR.out.below.size) (Kd.R_lower (Kd.R_mono (Kd.R_bound HN.out.inds) (fun k hk => hk.2.1)) HR.out.below.size)); (case aK => exact fun k hk => ⟨trivial, fun he => by have := Kd.S_lt HR.out.s k he.symm; omega⟩); (case aO => exact Kd.S_below (Kd.S_mono (Kd.S_bound HR.out.s) (fun k hk => ⟨trivial, by have := hk.2.2.1; omega⟩)) HN.out.below); intro v6 w6 ho6 hb6 hg6 hat6; obtain ⟨A6, c6, h6⟩ := Kd.S_slice ho6; rw [show (ts.take kk ++ [t]).length = kk + 1 by rw [List.length_append, HLK.out]; rfl] at h6; subst h6; have hx6 := blk_grown HSt.out.b2 hg6 (Kd.S_ne HSt.out.s HSt.out.b2 (by decide)); have HF := Aside0.mk (HR.out.next HN.out.below hb6 hg6 ho6); have f6 := blk_frozen hx6 1; have b6 := blk_cell (j := 1) (v := u) hx6 rfl; clear ho6 hb6 hg6 hat6 hx6 y0 z0 z1 z2 z3 z4)
          go_roundg (ts.length - (kk + 1))
          case measure => omega
          case rel => exact ⟨kk + 1, _, by omega, by omega, by go_num, ⟨by rw [hT.out]; exact HF.out⟩⟩
    · have hltz : ¬ (kk : Int) < (ts.length : Int) := by omega
      have hS := HR.out
      rw [List.take_of_length_le (by omega)] at hS
      obtain ⟨Au, cu, hu⟩ := Kd.S_slice hS.s
      subst hu
      have y0 := blk_cell (j := 0) (v := .int .i64 v) hS.b2 rfl
      have y1 := blk_cell (j := 1) (v := .slice Au ts.length cu) hS.b2 rfl
      have y2 := blk_cell (j := 2) (v := .int .i64 nx) hS.b2 rfl
      have x0 := blk_cell (j := 0) (v := .int .i64 0) hS.b1 rfl
      have x1 := blk_cell (j := 1) (v := .slice none 0 0) hS.b1 rfl
      have x2 := blk_cell (j := 2) (v := .int .i64 0) hS.b1 rfl
      have f0 := blk_frozen hS.b1 0
      have f1 := blk_frozen hS.b1 1
      have f2 := blk_frozen hS.b1 2
      have HF := Aside0.mk hS
      clear hS
      go_wp2
      refine bodyPost_ret (v := .agg #[.int .i64 v, .slice Au ts.length cu, .int .i64 nx]) (by simp [results, Tryd.results48, go_sem, y0, y1, y2, x0, x1, x2]) rfl ⟨_, rfl, HF.out.done _ _ _⟩
end Go.Proofs.YtjgomlcdmpcoaaaDoor.H
