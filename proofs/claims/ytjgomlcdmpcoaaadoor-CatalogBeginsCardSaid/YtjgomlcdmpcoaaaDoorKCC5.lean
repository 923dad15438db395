/- Own texts of this session, packed by its program wip/pp/pack.py: lemmas and walks of functions. -/
import Derived.Deep.RegionHeld3
import Derived.Deep.QuietTactic
import Derived.BigQuiet
import Derived.Test.YtjgomlcdmpcoaaaDoorKCC3
import Derived.Test.YtjgomlcdmpcoaaaDoorKCC4
namespace Go.Proofs.YtjgomlcdmpcoaaaDoor.D
open Go.RowKit Go.Proofs.YtjgomlcdmpcoaaaDoorW.PrintWords Go.Proofs.YtjgomlcdmpcoaaaDoorW.PrintLast Go.Proofs.YtjgomlcdmpcoaaaDoorW.PrintMore
attribute [local go_sem] max2_int min2_int max_two min_two max_three min_three max_four min_four
set_option linter.unusedVariables false
set_option linter.unusedSimpArgs false
def slices_Index_int_int.l0 : Nat → List Int → Int → Int → Int → Option (Int)
 | 0, _, _, _, _ => none
 | k + 1, x0, x1, x7, x8 => if x8 < x7 then (if 0 ≤ x8 then (if x8 < (x0.length : Int) then (if x1 = (rd x0 x8) then (some x8) else (slices_Index_int_int.l0 k x0 x1 x7 (wrap64 (x8 + 1)))) else (none)) else (none)) else (some (-1))
def slices_Index_int_int.f (k : Nat) (l0 : List Int) (a1 : Int) : Option (Int) := slices_Index_int_int.l0 k l0 a1 (l0.length : Int) 0
theorem slices_Index_int_int.mono_l : ∀ k, (∀ y0 y1 y2 y3, LeO (slices_Index_int_int.l0 k y0 y1 y2 y3) (slices_Index_int_int.l0 (k + 1) y0 y1 y2 y3))
 | 0 => fun _ _ _ _ r h => by simp [slices_Index_int_int.l0] at h
 | k + 1 => by
  have ih0 := slices_Index_int_int.mono_l k
  ·intro y0 y1 y2 y3
   unfold slices_Index_int_int.l0
   repeat' first
   | (with_reducible exact ih0 _ _ _ _)
   | (with_reducible exact LeO.refl _)
   | (with_reducible exact LeO.none _)
   | (with_reducible refine LeO.ite ?_ ?_)
   | (with_reducible refine LeO.bind ?_ (fun _ => ?_))
   | exact ih0 _ _ _ _
   | exact LeO.none _
   | refine LeO.ite ?_ ?_
   | refine LeO.bind ?_ (fun _ => ?_)
theorem slices_Index_int_int.mono : ∀ a0 a1 k, LeO (slices_Index_int_int.f k a0 a1) (slices_Index_int_int.f (k + 1) a0 a1) := by
 intro a0 a1 k
 have ih0 := slices_Index_int_int.mono_l k
 unfold slices_Index_int_int.f
 repeat' first
   | (with_reducible exact ih0 _ _ _ _)
   | (with_reducible exact LeO.refl _)
   | (with_reducible exact LeO.none _)
   | (with_reducible refine LeO.ite ?_ ?_)
   | (with_reducible refine LeO.bind ?_ (fun _ => ?_))
   | exact ih0 _ _ _ _
   | exact LeO.none _
   | refine LeO.ite ?_ ?_
   | refine LeO.bind ?_ (fun _ => ?_)
set_option maxHeartbeats 8000000 in
set_option maxRecDepth 100000 in
theorem slices_Index_int_int.calls (k : Nat) (A0 : Option Addr) (c0 : Nat) (l0 : List Int) (a1 : Int) (r : Int) (w : World) (hr0 : Kd.C (Kd.int .i64) w A0 l0.length l0) (hc0 : l0.length ≤ c0) (h : slices_Index_int_int.f k l0 a1 = some r) :
  Calls Tryd.prog 178 #[.slice A0 l0.length c0, .int .i64 a1] w fun e w' => e = .returned (.int .i64 r) ∧ Drawn0 w w' := by
 have HR0 := Aside0.mk hr0; have HC0 := Aside0.mk hc0; clear hr0 hc0; have H : (slices_Index_int_int.l0 k l0 a1 (l0.length : Int) 0) = some r := h
 clear h; have H' := Aside0.mk H; clear H; go_enter Tryd.func178, Tryd.ntmps178
 go_wp2; go_loopg [8] k (fun kq v8 w' => ∃ (x8_1 : Int), v8 = .int .i64 x8_1 ∧ Aside0 (slices_Index_int_int.l0 kq l0 a1 (l0.length : Int) x8_1 = some r) ∧ Aside0 (kq ≤ k) ∧ Drawn0 w w')
 case atStart => exact ⟨(0), (by first | rfl | (simp; done) | (simp [*]; done)), H', ⟨Nat.le_refl _⟩, by repeat (first | exact Drawn0.refl _ | apply Drawn0.step)⟩
 case round =>
  clear H'; (try clear c1); (try clear p2); obtain ⟨x8_1, rfl, HA, HK1, ⟨m1, rfl⟩⟩ := hrel
  cases gk with
  | zero => exact absurd HA.out (by simp [slices_Index_int_int.l0])
  | succ k1 =>
   have H := HA.out; clear HA; simp only [slices_Index_int_int.l0] at H
   by_cases c3 : x8_1 < (l0.length : Int)
   ·rw [if_pos c3] at H
    have c3b0 : decide (x8_1 < (l0.length : Int)) = true := decide_eq_true c3
    clear c3; by_cases c4 : 0 ≤ x8_1
    ·rw [if_pos c4] at H
     have c4b0 : decide (0 ≤ x8_1) = true := decide_eq_true c4
     clear c4; by_cases c5 : x8_1 < (l0.length : Int)
     ·rw [if_pos c5] at H
      have c5b0 : decide (x8_1 < (l0.length : Int)) = true := decide_eq_true c5
      clear c5; by_cases c6 : a1 = (rd l0 x8_1)
      ·rw [if_pos c6] at H
       have c6b0 : (a1 == (rd l0 x8_1)) = true := beq_iff_eq.mpr c6
       have c6b1 : (a1 != (rd l0 x8_1)) = false := bne_eq_false_iff_eq.mpr c6
       clear c6; obtain rfl := Option.some.inj H; have p116 : 0 ≤ (x8_1 : Int) := of_decide_eq_true (by first | (with_reducible assumption) | assumption)
       have q116 : x8_1 < (l0.length : Int) := of_decide_eq_true (by first | (with_reducible assumption) | assumption)
       obtain ⟨ad116, e116, hx116_0⟩ := Kd.at_int HR0.out x8_1 p116 q116
       cases e116
       replace p116 := eq_true p116
       replace q116 := eq_true q116
       go_wp2; go_ret; exact ⟨by first | rfl | (simp; done) | (simp [*]; done), by repeat (first | exact Drawn0.refl _ | apply Drawn0.step)⟩
      ·rw [if_neg c6] at H
       have c6b0 : (a1 == (rd l0 x8_1)) = false := beq_eq_false_iff_ne.mpr c6
       have c6b1 : (a1 != (rd l0 x8_1)) = true := bne_iff_ne.mpr c6
       have H' := Aside0.mk H; clear H; have p116 : 0 ≤ (x8_1 : Int) := of_decide_eq_true (by first | (with_reducible assumption) | assumption)
       have q116 : x8_1 < (l0.length : Int) := of_decide_eq_true (by first | (with_reducible assumption) | assumption)
       obtain ⟨ad116, e116, hx116_0⟩ := Kd.at_int HR0.out x8_1 p116 q116
       cases e116
       replace p116 := eq_true p116
       replace q116 := eq_true q116
       go_wp2; go_roundg k1
       case measure => have := HK1.out; omega
       case rel => exact ⟨(wrap64 (x8_1 + 1)), (by first | rfl | (simp; done) | (simp [*]; done)), H', ⟨by have := HK1.out; omega⟩, by repeat (first | exact Drawn0.refl _ | apply Drawn0.step)⟩
     ·rw [if_neg c5] at H
      exact absurd H (by simp)
    ·rw [if_neg c4] at H
     exact absurd H (by simp)
   ·rw [if_neg c3] at H
    have c3b0 : decide (x8_1 < (l0.length : Int)) = false := decide_eq_false c3
    clear c3; obtain rfl := Option.some.inj H; go_wp2; go_ret; exact ⟨by first | rfl | (simp; done) | (simp [*]; done), by repeat (first | exact Drawn0.refl _ | apply Drawn0.step)⟩
end Go.Proofs.YtjgomlcdmpcoaaaDoor.D
namespace Go.Proofs.YtjgomlcdmpcoaaaDoor.D
open Go.RowKit Go.Proofs.YtjgomlcdmpcoaaaDoorW.PrintWords Go.Proofs.YtjgomlcdmpcoaaaDoorW.PrintLast Go.Proofs.YtjgomlcdmpcoaaaDoorW.PrintMore
attribute [local go_sem] max2_int min2_int max_two min_two max_three min_three max_four min_four
set_option linter.unusedVariables false
set_option linter.unusedSimpArgs false
def slices_Contains_int_int.f (k : Nat) (l0 : List Int) (a1 : Int) : Option (Bool) := (slices_Index_int_int.f k l0 a1).bind fun t117 => (some (decide (t117 ≥ 0)))
theorem slices_Contains_int_int.mono : ∀ a0 a1 k, LeO (slices_Contains_int_int.f k a0 a1) (slices_Contains_int_int.f (k + 1) a0 a1) := by
 intro a0 a1 k
 unfold slices_Contains_int_int.f
 repeat' first
   | (with_reducible exact slices_Index_int_int.mono _ _ _)
   | (with_reducible exact LeO.refl _)
   | (with_reducible exact LeO.none _)
   | (with_reducible refine LeO.ite ?_ ?_)
   | (with_reducible refine LeO.bind ?_ (fun _ => ?_))
   | exact slices_Index_int_int.mono _ _ _
   | exact LeO.none _
   | refine LeO.ite ?_ ?_
   | refine LeO.bind ?_ (fun _ => ?_)
set_option maxHeartbeats 8000000 in
set_option maxRecDepth 100000 in
theorem slices_Contains_int_int.calls (k : Nat) (A0 : Option Addr) (c0 : Nat) (l0 : List Int) (a1 : Int) (r : Bool) (w : World) (hr0 : Kd.C (Kd.int .i64) w A0 l0.length l0) (hc0 : l0.length ≤ c0) (h : slices_Contains_int_int.f k l0 a1 = some r) :
  Calls Tryd.prog 163 #[.slice A0 l0.length c0, .int .i64 a1] w fun e w' => e = .returned (.bool r) ∧ Drawn0 w w' := by
 have HR0 := Aside0.mk hr0; have HC0 := Aside0.mk hc0; clear hr0 hc0; have H : ((slices_Index_int_int.f k l0 a1).bind fun t117 => (some (decide (t117 ≥ 0)))) = some r := h
 clear h; replace H := Option.bind_eq_some_iff.mp H; obtain ⟨t117, A30, H⟩ := H
 replace H : (some (decide (t117 ≥ 0))) = some r := H
 have A3 := Aside0.mk A30; clear A30; obtain rfl := Option.some.inj H; go_enter Tryd.func163, Tryd.ntmps163
 go_wp2_with (first | ((with_reducible refine gate_callee (f := 178) rfl ?_); refine goesL_ (some 7) rfl rfl Tryd.func178 (by kernel_rfl) rfl #[.slice A0 l0.length c0, .int .i64 a1] rfl (by (try simp only [List.map_toArray, List.map_cons, List.map_nil]); first | done | rfl | (simp only [List.length_drop, List.length_take]; rfl)) ?_; (with_reducible refine (slices_Index_int_int.calls k _ _ l0 a1 t117 _ ?side1 ?side2 A3.out).mono ?_); (case side1 => repeat (first | exact HR0.out | (with_reducible refine Kd.C_alloc ?_ _) | (with_reducible refine Kd.C_drewN ?_ _) | (with_reducible refine Kd.C_drew ?_))); (case side2 => exact HC0.out); rintro e w' ⟨rfl, ⟨nd, rfl⟩⟩; refine ⟨_, rfl, ?_⟩))
 go_ret; exact ⟨by first | rfl | (simp; done) | (simp [*]; done), by repeat (first | exact Drawn0.refl _ | apply Drawn0.step)⟩
end Go.Proofs.YtjgomlcdmpcoaaaDoor.D
namespace Go.Proofs.YtjgomlcdmpcoaaaDoor.H
open Go.RowKit Go.Proofs.YtjgomlcdmpcoaaaDoorW.PrintWords Go.Proofs.YtjgomlcdmpcoaaaDoorW.PrintLast Go.Proofs.YtjgomlcdmpcoaaaDoorW.PrintMore
open Go.Proofs.YtjgomlcdmpcoaaaDoor.D Go.Proofs.YtjgomlcdmpcoaaaDoor
set_option linter.unusedVariables false
def stateB (n : Int) : Bool := decide (0 ≤ n) && decide (n ≤ 4)
set_option maxHeartbeats 1000000 in
theorem state_calls (n : Int) (w : World) : Calls Tryd.prog 162 #[.int .i64 n] w fun e w' => e = .returned (.bool (stateB n)) ∧ w = w' := by
  by_cases h1 : 0 ≤ n
  · by_cases h2 : n ≤ 4
    · have b1 := decide_eq_true h1
      have b2 := decide_eq_true h2
      have hs : stateB n = true := by unfold stateB; rw [b1, b2]; rfl
      have HS := Lib.hid hs
      clear h1 h2 hs
      go_enter Tryd.func162, Tryd.ntmps162
      go_wp2
      go_ret
      exact ⟨by rw [HS.out]; rfl, rfl⟩
    · have b1 := decide_eq_true h1
      have b2 := decide_eq_false h2
      have hs : stateB n = false := by unfold stateB; rw [b1, b2]; rfl
      have HS := Lib.hid hs
      clear h1 h2 hs
      go_enter Tryd.func162, Tryd.ntmps162
      go_wp2
      go_ret
      exact ⟨by rw [HS.out]; rfl, rfl⟩
  · have b1 := decide_eq_false h1
    have hs : stateB n = false := by unfold stateB; rw [b1]; rfl
    have HS := Lib.hid hs
    clear h1 hs
    go_enter Tryd.func162, Tryd.ntmps162
    go_wp2
    go_ret
    exact ⟨by rw [HS.out]; rfl, rfl⟩
theorem wrap_small {i : Int} (h0 : -9223372036854775808 ≤ i) (h1 : i < 9223372036854775808) : wrap64 i = i := by unfold wrap64; omega
theorem index_int (l : List Int) (a : Int) (hl : l.length ≤ 9223372036854775807) : ∀ (m k i : Nat), i + m = l.length → m < k →
    ∃ j, slices_Index_int_int.l0 k l a (l.length : Int) (i : Int) = some j ∧ decide (j ≥ 0) = (l.drop i).contains a
  | 0, k + 1, i, h, _ => by
    obtain rfl : i = l.length := by omega
    refine ⟨-1, ?_, ?_⟩
    · unfold slices_Index_int_int.l0
      rw [if_neg (by omega)]
    · simp
  | m + 1, k + 1, i, h, hk => by
    obtain ⟨j, hj, ha⟩ := index_int l a hl m k (i + 1) (by omega) (by omega)
    have hi : i < l.length := by omega
    have hd : l.drop i = l[i] :: l.drop (i + 1) := List.drop_eq_getElem_cons hi
    have hr : rd l (i : Int) = l[i] := by simp [rd, List.getD, hi]
    unfold slices_Index_int_int.l0
    rw [if_pos (by omega), if_pos (by omega), if_pos (by omega), hr, hd]
    by_cases hs : a = l[i]
    · rw [if_pos hs]
      exact ⟨_, rfl, by rw [List.contains_cons, beq_iff_eq.mpr hs, Bool.true_or]; exact decide_eq_true (by omega)⟩
    · rw [if_neg hs, wrap_small (by omega) (by omega)]
      refine ⟨j, by simpa using hj, ?_⟩
      rw [ha, List.contains_cons, beq_eq_false_iff_ne.mpr hs, Bool.false_or]
theorem contains_calls (A : Option Addr) (c n : Nat) (l : List Int) (a : Int) (hn : l.length = n) (w : World) (h : (Kd.int .i64).C w A l.length l) (hc : n ≤ c) :
    Calls Tryd.prog 163 #[.slice A n c, .int .i64 a] w fun e w' => e = .returned (.bool (l.contains a)) ∧ Drawn0 w w' := by
  subst hn
  obtain ⟨j, hj, ha⟩ := index_int l a h.2.1 l.length (l.length + 1) 0 (by omega) (by omega)
  refine slices_Contains_int_int.calls (l.length + 1) A c l a _ w h hc ?_
  unfold slices_Contains_int_int.f slices_Index_int_int.f
  have hj' : slices_Index_int_int.l0 (l.length + 1) l a (l.length : Int) 0 = some j := hj
  rw [hj', Option.bind_some, ha, List.drop_zero]
theorem enters_any {f : FuncId} {fn : Func} {c : Code} (hf : Tryd.prog.funcs[f]? = some fn) (hname : (fn.name == "runtime.NumGoroutine") = false) (hb : fn.body = some c) : ∀ (args : Array Value) (w : World), (callFunc f args).run Tryd.prog w = .ok (.enter f args) w := fun args w => enters hf hname hb args w
def colsB (cols : List S75) : List Int → List Int → Bool
  | _, [] => true
  | pre, id :: r => !(pre.contains id) && (cols.any (fun c => c.f0 == id) && colsB cols (pre ++ [id]) r)
theorem bcell {W w1 : World} (hb : Below W.heap.size W w1) : (∀ b o, b < W.heap.size → w1.cell? ⟨b, o, none⟩ = W.cell? ⟨b, o, none⟩) ∧ (∀ b o, b < W.heap.size → w1.frozen? ⟨b, o, none⟩ = W.frozen? ⟨b, o, none⟩) :=
  ⟨fun b o h => hb.cell (p := ⟨b, o, none⟩) h, fun b o h => hb.frozen (p := ⟨b, o, none⟩) h⟩
def lowC (c : UInt8) : Bool := decide (97 ≤ c.toNat) && decide (c.toNat ≤ 122)
def namC (c : UInt8) : Bool := lowC c || ((decide (48 ≤ c.toNat) && decide (c.toNat ≤ 57)) || c.toNat == 95)
def isWord (s : ByteArray) : Bool := wordsL.any fun w => s.toList == w.toList
def nameB (s : ByteArray) : Bool := match s.data.toList with
  | [] => false
  | c :: l => decide (s.size ≤ 16) && (lowC c && (!isWord s && (c :: l).all namC))
def NameCalls : Prop := ∀ (s : ByteArray) (w : World), GL w → Calls Tryd.prog 33 #[.string s] w fun e w' => e = .returned (.bool (nameB s)) ∧ Below w.heap.size w w'
def indexB (t : S70) (x : S98) : Bool := nameB x.f1 && (decide (1 ≤ x.f2.length) && (decide (x.f2.length ≤ 8) && (stateB x.f4 && colsB t.f2 [] x.f2)))
theorem below_dN {B : Nat} {w W : World} (h : Below B w W) (n : Nat) : Below B w (W.drewN n) := h.trans ⟨rfl, rfl, rfl, Nat.le_refl _, fun _ _ => rfl⟩
theorem keepA {w wr : World} {v2 v3 x : Value} (hb : Below w.heap.size w wr) (hz : w.heap.size + 2 ≤ wr.heap.size) (h2 : wr.cell? ⟨w.heap.size, 2, none⟩ = some v2) (h3 : wr.cell? ⟨w.heap.size + 1, 2, none⟩ = some v3) {ty : TypeId} :
    let W := (wr.alloc (Obj.cells #[x] ty)).drew
    Below w.heap.size w W ∧ wr.heap.size < W.heap.size ∧ W.cell? ⟨w.heap.size, 2, none⟩ = some v2 ∧ W.cell? ⟨w.heap.size + 1, 2, none⟩ = some v3 ∧ W.cell? ⟨wr.heap.size, 0, none⟩ = some x := by
  intro W
  have hbW : Below wr.heap.size wr W := below_drew (below_alloc (Below.refl _ _) _)
  refine ⟨below_drew (below_alloc hb _), ?_, ?_, ?_, ?_⟩
  · show wr.heap.size < (wr.alloc (Obj.cells #[x] ty)).heap.size
    simp
  · rw [hbW.cell (p := ⟨w.heap.size, 2, none⟩) (by show w.heap.size < wr.heap.size; omega)]; exact h2
  · rw [hbW.cell (p := ⟨w.heap.size + 1, 2, none⟩) (by show w.heap.size + 1 < wr.heap.size; omega)]; exact h3
  · show (wr.alloc (Obj.cells #[x] ty)).cell? ⟨wr.heap.size, 0, none⟩ = some x
    simp
theorem keepB {w wr W W' : World} {v2 v3 x : Value} (hz : w.heap.size + 2 ≤ wr.heap.size) (hb : Below w.heap.size w W) (hl : wr.heap.size < W.heap.size) (h2 : W.cell? ⟨w.heap.size, 2, none⟩ = some v2) (h3 : W.cell? ⟨w.heap.size + 1, 2, none⟩ = some v3)
    (h4 : W.cell? ⟨wr.heap.size, 0, none⟩ = some x) (hn : Below W.heap.size W W') :
    Below w.heap.size w W' ∧ wr.heap.size < W'.heap.size ∧ W'.cell? ⟨w.heap.size, 2, none⟩ = some v2 ∧ W'.cell? ⟨w.heap.size + 1, 2, none⟩ = some v3 ∧ W'.cell? ⟨wr.heap.size, 0, none⟩ = some x := by
  have hs := hn.size
  refine ⟨below_then hb hb.size hn, by omega, ?_, ?_, ?_⟩
  · rw [hn.cell (p := ⟨w.heap.size, 2, none⟩) (by show w.heap.size < W.heap.size; omega)]; exact h2
  · rw [hn.cell (p := ⟨w.heap.size + 1, 2, none⟩) (by show w.heap.size + 1 < W.heap.size; omega)]; exact h3
  · rw [hn.cell (p := ⟨wr.heap.size, 0, none⟩) (by show wr.heap.size < W.heap.size; omega)]; exact h4
set_option maxHeartbeats 4000000 in
set_option maxRecDepth 100000 in
theorem index_calls (hN : NameCalls) (t : S70) (x : S98) (A2 : Option Addr) (c2 : Nat) (A3 : Option Addr) (c3 : Nat) (B2 : Option Addr) (d2 : Nat) (w : World) (hG : GL w)
    (hc2 : t.f2.length ≤ c2) (g2 : k75.C w A2 t.f2.length t.f2) (hd2 : x.f2.length ≤ d2) (h2 : (Kd.int .i64).C w B2 x.f2.length x.f2) :
    Calls Tryd.prog 125 #[.agg #[.int .i64 t.f0, .string t.f1, .slice A2 t.f2.length c2, .slice A3 t.f3.length c3, .int .i64 t.f4], .agg #[.int .i64 x.f0, .string x.f1, .slice B2 x.f2.length d2, .bool x.f3, .int .i64 x.f4]] w
      fun e w' => e = .returned (.bool (indexB t x)) ∧ Below w.heap.size w w' := by
  have HN := Lib.hid hN
  have HG := Aside0.mk hG
  have HC := Aside0.mk g2
  have HX := Aside0.mk h2
  have hS := Lib.hid (state_calls x.f4)
  have hI := Lib.hid (show indexB t x = (nameB x.f1 && (decide (1 ≤ x.f2.length) && (decide (x.f2.length ≤ 8) && (stateB x.f4 && colsB t.f2 [] x.f2)))) from rfl)
  clear hN hG g2 h2
  generalize indexB t x = R at hI ⊢
  obtain ⟨n, hn⟩ : ∃ n : Nat, n = x.f2.length := ⟨_, rfl⟩
  have HNL := Lib.hid hn
  generalize hb : nameB x.f1 = nb at hI
  generalize hs : stateB x.f4 = sb at hI
  have HNB := Lib.hid hb
  have HSB := Lib.hid hs
  clear hb hs hn
  have L1 : decide ((x.f2.length : Int) < 1) = !decide (1 ≤ x.f2.length) := by by_cases h : 1 ≤ x.f2.length <;> simp [h] <;> omega
  have L8 : decide (8 < (x.f2.length : Int)) = !decide (x.f2.length ≤ 8) := by by_cases h : x.f2.length ≤ 8 <;> simp [h] <;> omega
  generalize decide (1 ≤ x.f2.length) = d1 at L1 hI
  generalize decide (x.f2.length ≤ 8) = d8 at L8 hI
  cases nb <;> cases d1 <;> cases d8 <;> cases sb <;> simp only [Bool.not_true, Bool.not_false, Bool.false_and, Bool.true_and] at L1 L8 hI
  case true.true.true.true =>
    go_enter Tryd.func125, Tryd.ntmps125
    go_wp2_with (first | (go_at_call 33; refine (HN.out _ _ (HG.out.of_below (by repeat (first | exact Below.refl _ _ | apply below_alloc)))).mono ?_; rintro e w1 ⟨rfl, hb1⟩; rw [HNB.out]; obtain ⟨hc1, hf1⟩ := bcell hb1) | (go_at_call 162; refine (hS.out _).mono ?_; rintro e w2 ⟨rfl, rfl⟩; rw [HSB.out]))
    have HB1 := Aside0.mk (below_then (below_alloc (below_alloc (Below.refl _ _) _) _) (by simp; omega) hb1 : Below w.heap.size w w1)
    have K2 := Aside0.mk (by rw [hc1 _ _ (by simp <;> omega)]; simp : w1.cell? ⟨w.heap.size, 2, none⟩ = some (.slice A2 t.f2.length c2))
    have K3 := Aside0.mk (by rw [hc1 _ _ (by simp <;> omega)]; simp : w1.cell? ⟨w.heap.size + 1, 2, none⟩ = some (.slice B2 x.f2.length d2))
    have hz1 : w.heap.size + 2 ≤ w1.heap.size := by have := hb1.size; simp at this; omega
    clear hc1 hf1 hb1 L1 L8
    go_loopg [5, 6, 32] x.f2.length (fun gg _ _ u32 wr => ∃ kk : Nat, kk ≤ x.f2.length ∧ x.f2.length - kk ≤ gg ∧ u32 = .int .i64 kk ∧ w.heap.size + 2 ≤ wr.heap.size ∧ Aside0 (Below w.heap.size w wr) ∧ Aside0 (wr.cell? ⟨w.heap.size, 2, none⟩ = some (.slice A2 t.f2.length c2)) ∧ Aside0 (wr.cell? ⟨w.heap.size + 1, 2, none⟩ = some (.slice B2 x.f2.length d2)) ∧ Aside0 (colsB t.f2 [] x.f2 = colsB t.f2 (x.f2.take kk) (x.f2.drop kk)))
    case atStart => exact ⟨0, Nat.zero_le _, by omega, rfl, hz1, HB1, K2, K3, ⟨by rfl⟩⟩
    case round =>
      obtain ⟨kk, hkk, hg, rfl, hz, BW, C2, C3, CI⟩ := hrel
      clear HB1 K2 K3 hz1
      by_cases hlt : kk < x.f2.length
      · have hltz : (kk : Int) < (x.f2.length : Int) := by omega
        have hd : x.f2.drop kk = x.f2[kk] :: x.f2.drop (kk + 1) := List.drop_eq_getElem_cons hlt
        have htk : x.f2.take (kk + 1) = x.f2.take kk ++ [x.f2[kk]] := List.take_succ_eq_append_getElem hlt
        obtain ⟨ad, eB, hcell⟩ := (Kd.reads_of_C (enc := Value.int .i64) (d := (0 : Int)) (h1 := fun _ => rfl) HX.out).at_ (kk : Int) (by omega) (by omega)
        have hx : rdOf (0 : Int) x.f2 (kk : Int) = x.f2[kk] := by simp [rdOf, List.getD, hlt]
        rw [hx, Int.toNat_natCast] at hcell
        have hcw := pw_cell_below BW.out hcell
        generalize x.f2[kk] = id at hd htk hcell hcw
        cases eB
        have hst : colsB t.f2 (x.f2.take kk) (id :: x.f2.drop (kk + 1)) = (!((x.f2.take kk).contains id) && (t.f2.any (fun c => c.f0 == id) && colsB t.f2 (x.f2.take (kk + 1)) (x.f2.drop (kk + 1)))) := by rw [htk]; rfl
        have CI2 := CI.out
        rw [hd, hst] at CI2
        have HCI := Lib.hid CI2
        clear CI CI2 hst hd htk hx hcell
        have hcon := Lib.hid (contains_calls (some ad) d2 kk (x.f2.take kk) id (by rw [List.length_take]; omega))
        have hCt := Aside0.mk (Kd.C_take HX.out (m := kk) (by omega))
        obtain ⟨f2, hf2⟩ : ∃ f2 : World, f2 = wr := ⟨_, rfl⟩
        cases hc : (x.f2.take kk).contains id with
        | true =>
          rw [hc] at hcon
          have HK := Lib.hid hc
          clear hc hf2
          go_wp2_with fail
          have k0 : (0 : Int) ≤ (kk : Int) := by omega
          have k1 : (kk : Int) ≤ (x.f2.length : Int) := by omega
          have q3 : (wr.alloc (Obj.cells #[Value.int IntKind.i64 id] 3)).cell? ⟨w.heap.size + 1, 2, none⟩ = some (.slice (some ad) x.f2.length d2) := (keepA (ty := 3) (x := .int .i64 id) BW.out hz C2.out C3.out).2.2.2.1
          go_quiet ((go_at_call 163; exact Calls.quiet_of ((hcon.out _ (Kd.C_below hCt.out (below_dN (below_alloc BW.out _) _)) (by omega)).mono fun e w' h => ⟨h.1, h.2.out⟩)))
          go_wp2
          go_ret
          refine ⟨?_, below_dN (below_alloc BW.out _) _⟩
          rw [hI.out, HCI.out, HK.out]; rfl
        | false =>
          rw [hc] at hcon
          have HK := Lib.hid hc
          clear hc hf2
          have k0 : (0 : Int) ≤ (kk : Int) := by omega
          have k1 : (kk : Int) ≤ (x.f2.length : Int) := by omega
          have k2 : (kk : Int) ≤ (d2 : Int) := by omega
          cases hq : t.f2.any (fun c => c.f0 == id) with
          | true =>
            have HQ := Lib.hid hq
            clear hq
            go_wp2_with fail
            go_region_held3 (fun W => Below w.heap.size w W ∧ wr.heap.size < W.heap.size ∧ W.cell? ⟨w.heap.size, 2, none⟩ = some (.slice A2 t.f2.length c2) ∧ W.cell? ⟨w.heap.size + 1, 2, none⟩ = some (.slice (some ad) x.f2.length d2) ∧ W.cell? ⟨wr.heap.size, 0, none⟩ = some (.int .i64 id)) (first | assumption | exact keepA BW.out hz C2.out C3.out | exact keepB hz (by assumption) (by assumption) (by assumption) (by assumption) (by assumption) hd2.below | exact keepB hz (by assumption) (by assumption) (by assumption) (by assumption) (by assumption) hb3) (first | (go_at_call 163; go_split_ands; refine (hcon.out _ (Kd.C_below hCt.out (by assumption)) (by omega)).mono ?_; rintro e w2 ⟨rfl, hd2⟩) | (go_at_call 164; go_split_ands; refine (any75 165 _ (enters_any Tryd.func165 rfl rfl) _ _ _ _ _ (Kd.C_below HC.out (by assumption)) (pred165 id _ _ (Nat.lt_of_le_of_lt (Nat.le_refl _) (by assumption)) (by assumption))).mono ?_; rintro e w3 ⟨rfl, hb3⟩; rw [HQ.out]))
            rename_i hHeld
            obtain ⟨z1, z2, z3, z4, _⟩ := hHeld
            have hbig := HX.out.2.1
            go_wp2
            go_roundg (x.f2.length - (kk + 1))
            case measure => omega
            case rel =>
              refine ⟨kk + 1, by omega, by omega, by go_num, by omega, ⟨z1⟩, ⟨z3⟩, ⟨z4⟩, ⟨?_⟩⟩
              rw [HCI.out, HK.out, HQ.out]; rfl
          | false =>
            have HQ := Lib.hid hq
            clear hq
            go_wp2_with fail
            go_region_held3 (fun W => Below w.heap.size w W ∧ wr.heap.size < W.heap.size ∧ W.cell? ⟨w.heap.size, 2, none⟩ = some (.slice A2 t.f2.length c2) ∧ W.cell? ⟨w.heap.size + 1, 2, none⟩ = some (.slice (some ad) x.f2.length d2) ∧ W.cell? ⟨wr.heap.size, 0, none⟩ = some (.int .i64 id)) (first | assumption | exact keepA BW.out hz C2.out C3.out | exact keepB hz (by assumption) (by assumption) (by assumption) (by assumption) (by assumption) hd2.below | exact keepB hz (by assumption) (by assumption) (by assumption) (by assumption) (by assumption) hb3) (first | (go_at_call 163; go_split_ands; refine (hcon.out _ (Kd.C_below hCt.out (by assumption)) (by omega)).mono ?_; rintro e w2 ⟨rfl, hd2⟩) | (go_at_call 164; go_split_ands; refine (any75 165 _ (enters_any Tryd.func165 rfl rfl) _ _ _ _ _ (Kd.C_below HC.out (by assumption)) (pred165 id _ _ (Nat.lt_of_le_of_lt (Nat.le_refl _) (by assumption)) (by assumption))).mono ?_; rintro e w3 ⟨rfl, hb3⟩; rw [HQ.out]))
            rename_i hHeld
            obtain ⟨z1, z2, z3, z4, _⟩ := hHeld
            go_wp2
            go_ret
            refine ⟨?_, z1⟩
            rw [hI.out, HCI.out, HK.out, HQ.out]; rfl
      · have hltz : ¬ (kk : Int) < (x.f2.length : Int) := by omega
        have hkd : x.f2.drop kk = [] := List.drop_eq_nil_of_le (by omega)
        have CI2 := CI.out
        rw [hkd] at CI2
        have HCI := Lib.hid CI2
        clear CI CI2 hkd
        go_wp2
        go_ret
        refine ⟨?_, BW.out⟩
        rw [hI.out, HCI.out]; rfl
  all_goals
    go_enter Tryd.func125, Tryd.ntmps125
    go_wp2_with (first | (go_at_call 33; refine (HN.out _ _ (HG.out.of_below (by repeat (first | exact Below.refl _ _ | apply below_alloc)))).mono ?_; rintro e w1 ⟨rfl, hb1⟩; rw [HNB.out]; obtain ⟨hc1, hf1⟩ := bcell hb1) | (go_at_call 162; refine (hS.out _).mono ?_; rintro e w2 ⟨rfl, rfl⟩; rw [HSB.out]))
    go_ret
    refine ⟨by rw [hI.out]; rfl, ?_⟩
    exact below_then (below_alloc (below_alloc (Below.refl _ _) _) _) (by simp; omega) hb1
end Go.Proofs.YtjgomlcdmpcoaaaDoor.H
