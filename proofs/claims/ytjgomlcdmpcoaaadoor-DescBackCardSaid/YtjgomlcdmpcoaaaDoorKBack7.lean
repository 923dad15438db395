/- Own texts of this session, packed by its program wip/pp/pack.py: lemmas and walks of functions. -/
import Derived.RegionTactic
import Derived.BigRegion
import Derived.Test.YtjgomlcdmpcoaaaDoorKBack4
import Derived.Test.YtjgomlcdmpcoaaaDoorKBack5
import Derived.Test.YtjgomlcdmpcoaaaDoorKBack6
namespace Go.Proofs.YtjgomlcdmpcoaaaDoor.H
open Go.RowKit Go.Proofs.YtjgomlcdmpcoaaaDoorW.PrintWords Go.Proofs.YtjgomlcdmpcoaaaDoorW.PrintLast Go.Proofs.YtjgomlcdmpcoaaaDoorW.PrintMore
open Go.Proofs.YtjgomlcdmpcoaaaDoor.D Go.Proofs.YtjgomlcdmpcoaaaDoor
set_option linter.unusedVariables false
def ColsAt (W : World) (base : Nat) (A : Option Addr) (m : Nat) : Prop :=
  m ≤ 9223372036854775807 ∧ (0 < m → ∃ b cs, A = some ⟨b, 0, none⟩ ∧ base ≤ b ∧ W.heap[b]? = some (.cells cs 75 (0, 0)) ∧ m * 9 ≤ cs.size)
def Spoil (W : World) (base g n : Nat) : Prop :=
  base ≤ g ∧ ∃ cs, W.heap[g]? = some (.cells cs 70 (0, 0)) ∧ n * 5 ≤ cs.size ∧ ∀ i, i < n → ∃ A m c, cs[i * 5 + 2]? = some (.slice A m c) ∧ ColsAt W base A m
theorem ColsAt.set {W : World} {base : Nat} {A : Option Addr} {m : Nat} (h : ColsAt W base A m) {g t : Nat} {cs : Array Value} (hg : W.heap[g]? = some (.cells cs t (0, 0))) (j : Nat) (u : Value) :
    ColsAt (W.setCell ⟨g, j, none⟩ u) base A m := by
  refine ⟨h.1, fun hm => ?_⟩
  obtain ⟨b, ds, e, hb, hd, hs⟩ := h.2 hm
  by_cases hgb : b = g
  · subst hgb
    rw [hg] at hd
    injection hd with hd
    injection hd with h1 h2 h3
    subst h1 h2
    exact ⟨b, _, e, hb, blk_set hg j u, by rw [Array.size_setIfInBounds]; exact hs⟩
  · exact ⟨b, ds, e, hb, by rw [Below.heap_setCell W ⟨g, j, none⟩ u b hgb]; exact hd, hs⟩
theorem Spoil.name {W : World} {base g n : Nat} (h : Spoil W base g n) (i : Nat) (u : Value) : Spoil (W.setCell ⟨g, i * 5 + 1, none⟩ u) base g n := by
  obtain ⟨hb, cs, hc, hs, hr⟩ := h
  refine ⟨hb, _, blk_set hc _ u, by rw [Array.size_setIfInBounds]; exact hs, fun k hk => ?_⟩
  obtain ⟨A, m, c, e, hA⟩ := hr k hk
  refine ⟨A, m, c, ?_, hA.set hc _ u⟩
  rw [Array.getElem?_setIfInBounds_ne (by omega)]
  exact e
theorem Spoil.col {W : World} {base g n : Nat} (h : Spoil W base g n) {b : Nat} {ds : Array Value} (hd : W.heap[b]? = some (.cells ds 75 (0, 0))) (j : Nat) (u : Value) : Spoil (W.setCell ⟨b, j, none⟩ u) base g n := by
  obtain ⟨hb, cs, hc, hs, hr⟩ := h
  have hne : g ≠ b := blk_ne hc hd (by decide)
  refine ⟨hb, cs, by rw [Below.heap_setCell W ⟨b, j, none⟩ u g hne]; exact hc, hs, fun k hk => ?_⟩
  obtain ⟨A, m, c, e, hA⟩ := hr k hk
  exact ⟨A, m, c, e, hA.set hd j u⟩
theorem ColsAt.of_R {W : World} {base : Nat} {ok : Nat → Prop} {v : Value} {xs : List S75} (h : k75.R 75 W base ok v xs) : ∃ A m c, v = .slice A m c ∧ ColsAt W base A m := by
  obtain ⟨inner, ho⟩ := Kd.R_own h
  rcases ho.2 with ⟨e, hn⟩ | ⟨g, cap, cur, e, hb, hc, hle, hmx, hsz, _⟩
  · exact ⟨none, 0, 0, e, Nat.zero_le _, fun h => absurd h (Nat.lt_irrefl 0)⟩
  · refine ⟨_, _, _, e, ?_, fun _ => ⟨g, cur, rfl, hb, hc, ?_⟩⟩
    · unfold maxLen at hmx
      omega
    · rw [hsz]
      exact Nat.mul_le_mul_right 9 hle
theorem Spoil.of_R {W : World} {base g c : Nat} {ok : Nat → Prop} {ts : List S70} (h : k70.R 70 W base ok (.slice (some ⟨g, 0, none⟩) ts.length c) ts) : Spoil W base g ts.length := by
  obtain ⟨inner, ho⟩ := Kd.R_own h
  rcases ho.2 with ⟨e, hn⟩ | ⟨g', cap, cur, e, hb, hc, hle, hmx, hsz, _⟩
  · cases e
  · injection e with e1 e2 e3
    injection e1 with e1
    injection e1 with e1
    subst e1
    refine ⟨hb, cur, hc, by rw [hsz]; exact Nat.mul_le_mul_right 5 hle, fun i hi => ?_⟩
    obtain ⟨cs, hcl, hM, hcc, _⟩ := Kd.R_elem h z70 (i : Int) (by omega) (by omega)
    obtain ⟨v2, v3, rfl, h2, _⟩ := k70_openM hM
    have q := hcc 2 v2 rfl
    rw [Go.Proofs.YtjgomlcdmpcoaaaDoorW.PrintWords.blk_cell hc] at q
    obtain ⟨A, m, c2, e2, hA⟩ := ColsAt.of_R h2
    rw [e2] at q
    exact ⟨A, m, c2, q, hA⟩
theorem ColsAt.below {W W' : World} {base : Nat} {A : Option Addr} {m : Nat} (h : ColsAt W base A m) (hB : Below W.heap.size W W') : ColsAt W' base A m := by
  refine ⟨h.1, fun hm => ?_⟩
  obtain ⟨b, ds, e, hb, hd, hs⟩ := h.2 hm
  exact ⟨b, ds, e, hb, blk_below hd hB, hs⟩
theorem Spoil.below {W W' : World} {base g n : Nat} (h : Spoil W base g n) (hB : Below W.heap.size W W') : Spoil W' base g n := by
  obtain ⟨hb, cs, hc, hs, hr⟩ := h
  refine ⟨hb, cs, blk_below hc hB, hs, fun k hk => ?_⟩
  obtain ⟨A, m, c, e, hA⟩ := hr k hk
  exact ⟨A, m, c, e, hA.below hB⟩
theorem Spoil.of_R' {W W' : World} {base c : Nat} {A : Option Addr} {ok : Nat → Prop} {ts : List S70} (h : k70.R 70 W base ok (.slice A ts.length c) ts) (hB : Below W.heap.size W W') (hn : 0 < ts.length) : ∃ g, A = some ⟨g, 0, none⟩ ∧ Spoil W' base g ts.length := by
  obtain ⟨inner, ho⟩ := Kd.R_own h
  rcases ho.2 with ⟨e, hz⟩ | ⟨g', cap, cur, e, _⟩
  · omega
  · injection e with e1 e2 e3
    subst e1
    exact ⟨g', rfl, (Spoil.of_R h).below hB⟩
end Go.Proofs.YtjgomlcdmpcoaaaDoor.H
namespace Go.Proofs.YtjgomlcdmpcoaaaDoor.H
open Go.RowKit Go.Proofs.YtjgomlcdmpcoaaaDoorW.PrintWords Go.Proofs.YtjgomlcdmpcoaaaDoorW.PrintLast Go.Proofs.YtjgomlcdmpcoaaaDoorW.PrintMore
open Go.Proofs.YtjgomlcdmpcoaaaDoor.D Go.Proofs.YtjgomlcdmpcoaaaDoor
set_option linter.unusedVariables false
set_option linter.unusedSimpArgs false
set_option maxRecDepth 100000 in
set_option maxHeartbeats 4000000 in
theorem ints_eq (l : List Int) (A B : Option Addr) (c d : Nat) (w : World) (hA : (Kd.int .i64).C w A l.length l) (hB : (Kd.int .i64).C w B l.length l) :
    Calls Tryd.prog 111 #[.slice A l.length c, .slice B l.length d] w fun e w' => e = .returned (.bool true) ∧ Below w.heap.size w w' := by
  have HA := Aside0.mk hA
  have HB := Aside0.mk hB
  have big := hA.2.1
  clear hA hB
  go_enter Tryd.func111, Tryd.ntmps111
  go_wp2_with fail
  go_loopg [5] l.length (fun gg u3 wr => ∃ k : Nat, k ≤ l.length ∧ l.length - k ≤ gg ∧ u3 = .int .i64 k ∧ Aside0 (Below w.heap.size w wr))
  case atStart => exact ⟨0, Nat.zero_le _, by omega, rfl, ⟨Below.refl _ _⟩⟩
  case round =>
    obtain ⟨k, hk, hg, rfl, HT⟩ := hrel
    by_cases hlt : k < l.length
    · have hltz : (k : Int) < (l.length : Int) := by omega
      have hk0 : (0 : Int) ≤ (k : Int) := by omega
      obtain ⟨ad, eA, p0⟩ := Kd.at_int (Kd.C_below HA.out HT.out) (k : Int) (by omega) (by omega)
      cases eA
      obtain ⟨bd, eB, q0⟩ := Kd.at_int (Kd.C_below HB.out HT.out) (k : Int) (by omega) (by omega)
      cases eB
      simp only [Int.toNat_natCast] at p0 q0
      go_wp2_with fail
      go_quiet (fail)
      go_wp2
      go_roundg (l.length - (k + 1))
      case measure => omega
      case rel => exact ⟨k + 1, by omega, by omega, by go_num, ⟨pw_below_drewN HT.out _⟩⟩
    · have hltz : ¬ (k : Int) < (l.length : Int) := by omega
      go_wp2
      go_ret
      exact ⟨rfl, HT.out⟩
structure SmSt (w wr : World) (b1 b2 : Array Value) : Prop where
  below : Below w.heap.size w wr
  x1 : wr.heap[w.heap.size]? = some (.cells b1 70 (0, 0))
  x2 : wr.heap[w.heap.size + 1]? = some (.cells b2 70 (0, 0))
theorem SmSt.step {w wr w' : World} {b1 b2 : Array Value} (h : SmSt w wr b1 b2) (hb : Below wr.heap.size wr w') : SmSt w w' b1 b2 :=
  ⟨below_then h.below h.below.size hb, blk_below h.x1 hb, blk_below h.x2 hb⟩
theorem SmSt.drew {w wr : World} {b1 b2 : Array Value} (h : SmSt w wr b1 b2) (n : Nat) : SmSt w (wr.drewN n) b1 b2 := h.step (pw_below_drewN (Below.refl _ _) n)
theorem SmSt.new (w : World) (b1 b2 : Array Value) : SmSt w ((w.alloc (.cells b1 70)).alloc (.cells b2 70)) b1 b2 := by
  refine ⟨below_alloc (below_alloc (Below.refl _ _) _) _, blk_alloc (heap_alloc_new w _) _, ?_⟩
  have := heap_alloc_new (w.alloc (.cells b1 70)) (.cells b2 70)
  simpa using this
set_option maxRecDepth 100000 in
set_option maxHeartbeats 16000000 in
theorem sametab_eq (t : S70) (A2 B2 A3 B3 : Option Addr) (c2 d2 c3 d3 : Nat) (w : World) (hA2 : k75.C w A2 t.f2.length t.f2) (hB2 : k75.C w B2 t.f2.length t.f2) (hA3 : k98.C w A3 t.f3.length t.f3) (hB3 : k98.C w B3 t.f3.length t.f3) :
    Calls Tryd.prog 56 #[.agg #[.int .i64 t.f0, .string t.f1, .slice A2 t.f2.length c2, .slice A3 t.f3.length c3, .int .i64 t.f4], .agg #[.int .i64 t.f0, .string t.f1, .slice B2 t.f2.length d2, .slice B3 t.f3.length d3, .int .i64 t.f4]] w fun e w' => e = .returned (.bool true) ∧ Below w.heap.size w w' := by
  have HA2 := Aside0.mk hA2
  have HB2 := Aside0.mk hB2
  have HA3 := Aside0.mk hA3
  have HB3 := Aside0.mk hB3
  have big2 := hA2.2.1
  have big3 := hA3.2.1
  have HS := Aside0.mk (SmSt.new w #[.int .i64 t.f0, .string t.f1, .slice A2 t.f2.length c2, .slice A3 t.f3.length c3, .int .i64 t.f4] #[.int .i64 t.f0, .string t.f1, .slice B2 t.f2.length d2, .slice B3 t.f3.length d3, .int .i64 t.f4])
  clear hA2 hB2 hA3 hB3
  go_enter Tryd.func56, Tryd.ntmps56
  go_wp2_with fail
  go_loopg [5] t.f2.length (fun gg u5 wr => ∃ k : Nat, k ≤ t.f2.length ∧ t.f2.length - k ≤ gg ∧ u5 = .int .i64 k ∧ Aside0 (SmSt w wr #[.int .i64 t.f0, .string t.f1, .slice A2 t.f2.length c2, .slice A3 t.f3.length c3, .int .i64 t.f4] #[.int .i64 t.f0, .string t.f1, .slice B2 t.f2.length d2, .slice B3 t.f3.length d3, .int .i64 t.f4]))
  case atStart => exact ⟨0, Nat.zero_le _, by omega, rfl, HS⟩
  case round =>
    obtain ⟨k, hk, hg, rfl, HT⟩ := hrel
    clear HS
    have k2 := (Go.Proofs.YtjgomlcdmpcoaaaDoorW.PrintWords.blk_cell HT.out.x1 2).trans (rfl : _ = some (Value.slice A2 t.f2.length c2))
    have j2 := (Go.Proofs.YtjgomlcdmpcoaaaDoorW.PrintWords.blk_cell HT.out.x2 2).trans (rfl : _ = some (Value.slice B2 t.f2.length d2))
    by_cases hlt : k < t.f2.length
    · have hltz : (k : Int) < (t.f2.length : Int) := by omega
      have hk0 : (0 : Int) ≤ (k : Int) := by omega
      obtain ⟨ad, eA, p0, p1, p2, p3, p4, p5, p6, p7, p8⟩ := at_T75 (Kd.C_below HA2.out HT.out.below) (k : Int) (by omega) (by omega)
      cases eA
      obtain ⟨bd, eB, q0, q1, q2, q3, q4, q5, q6, q7, q8⟩ := at_T75 (Kd.C_below HB2.out HT.out.below) (k : Int) (by omega) (by omega)
      cases eB
      simp only [Int.toNat_natCast] at p0 p1 p2 p3 p4 p5 p6 p7 p8 q0 q1 q2 q3 q4 q5 q6 q7 q8
      generalize rd_T75 t.f2 (k : Int) = c at p0 p1 p2 p3 p4 p5 p6 p7 p8 q0 q1 q2 q3 q4 q5 q6 q7 q8
      go_wp2_with fail
      go_quiet (fail)
      go_wp2
      go_roundg (t.f2.length - (k + 1))
      case measure => omega
      case rel => exact ⟨k + 1, by omega, by omega, by go_num, ⟨HT.out.drew _⟩⟩
    · have hltz : ¬ (k : Int) < (t.f2.length : Int) := by omega
      have HS := HT
      clear HT
      have k3 := (Go.Proofs.YtjgomlcdmpcoaaaDoorW.PrintWords.blk_cell HS.out.x1 3).trans (rfl : _ = some (Value.slice A3 t.f3.length c3))
      have j3 := (Go.Proofs.YtjgomlcdmpcoaaaDoorW.PrintWords.blk_cell HS.out.x2 3).trans (rfl : _ = some (Value.slice B3 t.f3.length d3))
      obtain ⟨wo, hwo⟩ : ∃ wo : World, wo = wr := ⟨_, rfl⟩
      subst hwo
      go_wp2_with fail
      go_loopg [6] t.f3.length (fun gg u6 wr => ∃ k : Nat, k ≤ t.f3.length ∧ t.f3.length - k ≤ gg ∧ u6 = .int .i64 k ∧ Aside0 (SmSt w wr #[.int .i64 t.f0, .string t.f1, .slice A2 t.f2.length c2, .slice A3 t.f3.length c3, .int .i64 t.f4] #[.int .i64 t.f0, .string t.f1, .slice B2 t.f2.length d2, .slice B3 t.f3.length d3, .int .i64 t.f4]))
      case atStart => exact ⟨0, Nat.zero_le _, by omega, rfl, HS⟩
      case round =>
        obtain ⟨k, hk, hg, rfl, HT⟩ := hrel
        clear HS k2 j2 k3 j3
        have k3 := (Go.Proofs.YtjgomlcdmpcoaaaDoorW.PrintWords.blk_cell HT.out.x1 3).trans (rfl : _ = some (Value.slice A3 t.f3.length c3))
        have j3 := (Go.Proofs.YtjgomlcdmpcoaaaDoorW.PrintWords.blk_cell HT.out.x2 3).trans (rfl : _ = some (Value.slice B3 t.f3.length d3))
        by_cases hlt : k < t.f3.length
        · have hltz : (k : Int) < (t.f3.length : Int) := by omega
          have hk0 : (0 : Int) ≤ (k : Int) := by omega
          obtain ⟨ad, X2, x2, eA, p0, p1, p2, p3, p4, lA, gA⟩ := at_T98 (Kd.C_below HA3.out HT.out.below) (k : Int) (by omega) (by omega)
          cases eA
          obtain ⟨bd, Y2, y2, eB, q0, q1, q2, q3, q4, lB, gB⟩ := at_T98 (Kd.C_below HB3.out HT.out.below) (k : Int) (by omega) (by omega)
          cases eB
          simp only [Int.toNat_natCast] at p0 p1 p2 p3 p4 q0 q1 q2 q3 q4
          generalize rd_T98 t.f3 (k : Int) = c at p0 p1 p2 p3 p4 q0 q1 q2 q3 q4 lA gA lB gB
          have HCI := Lib.hid (fun w' (hb : Below wr.heap.size wr w') => ints_eq c.f2 X2 Y2 x2 y2 w' (Kd.C_below gA hb) (Kd.C_below gB hb))
          clear lA gA lB gB
          have l1 : w.heap.size < wr.heap.size := lt_of_block HT.out.x1
          have l2 : w.heap.size + 1 < wr.heap.size := lt_of_block HT.out.x2
          have l3 := World.block_lt_of_cell? wr _ p0
          have l4 := World.block_lt_of_cell? wr _ q0
          go_wp2_with fail
          go_region
          all_goals
            go_wp2_with fail
            have hBw : ∀ (a b : Obj), Below wr.heap.size wr ((wr.alloc a).alloc b).drew := fun a b => below_drew (below_alloc (below_alloc (Below.refl _ _) _) _)
            have hSz : ∀ (a b : Obj), wr.heap.size ≤ ((wr.alloc a).alloc b).drew.heap.size := fun a b => (hBw a b).size
            refine (HCI.out _ (hBw _ _)).mono ?_
            rintro e w3 ⟨rfl, hb3⟩
            have HT3 := Aside0.mk (HT.out.step (below_then (hBw _ _) (hSz _ _) hb3))
            clear hb3 hBw hSz p0 p1 p2 p3 p4 q0 q1 q2 q3 q4 k3 j3 l1 l2 l3 l4 HT
            go_wp2
            go_roundg (t.f3.length - (k + 1))
            case measure => omega
            case rel => exact ⟨k + 1, by omega, by omega, by go_num, HT3⟩
        · have hltz : ¬ (k : Int) < (t.f3.length : Int) := by omega
          go_wp2
          go_ret
          exact ⟨rfl, HT.out.below⟩
end Go.Proofs.YtjgomlcdmpcoaaaDoor.H
namespace Go.Proofs.YtjgomlcdmpcoaaaDoor.H
open Go.RowKit Go.Proofs.YtjgomlcdmpcoaaaDoorW.PrintWords Go.Proofs.YtjgomlcdmpcoaaaDoorW.PrintLast Go.Proofs.YtjgomlcdmpcoaaaDoorW.PrintMore
open Go.Proofs.YtjgomlcdmpcoaaaDoor.D Go.Proofs.YtjgomlcdmpcoaaaDoor
set_option linter.unusedVariables false
set_option linter.unusedSimpArgs false
structure SsSt (w wr : World) (b1 b2 : Array Value) : Prop where
  below : Below w.heap.size w wr
  x1 : wr.heap[w.heap.size]? = some (.cells b1 28 (0, 0))
  x2 : wr.heap[w.heap.size + 1]? = some (.cells b2 28 (0, 0))
theorem SsSt.step {w wr w' : World} {b1 b2 : Array Value} (h : SsSt w wr b1 b2) (hb : Below wr.heap.size wr w') : SsSt w w' b1 b2 :=
  ⟨below_then h.below h.below.size hb, blk_below h.x1 hb, blk_below h.x2 hb⟩
theorem SsSt.new (w : World) (b1 b2 : Array Value) : SsSt w ((w.alloc (.cells b1 28)).alloc (.cells b2 28)) b1 b2 := by
  refine ⟨below_alloc (below_alloc (Below.refl _ _) _) _, blk_alloc (heap_alloc_new w _) _, ?_⟩
  have := heap_alloc_new (w.alloc (.cells b1 28)) (.cells b2 28)
  simpa using this
set_option maxRecDepth 100000 in
set_option maxHeartbeats 16000000 in
theorem same_eq (v nx : Int) (ts : List S70) (A B : Option Addr) (c d : Nat) (w : World) (hA : k70.C w A ts.length ts) (hB : k70.C w B ts.length ts) :
    Calls Tryd.prog 45 #[.agg #[.int .i64 v, .slice A ts.length c, .int .i64 nx], .agg #[.int .i64 v, .slice B ts.length d, .int .i64 nx]] w fun e w' => e = .returned (.bool true) ∧ Below w.heap.size w w' := by
  have HA := Aside0.mk hA
  have HB := Aside0.mk hB
  have big := hA.2.1
  have HS := Aside0.mk (SsSt.new w #[.int .i64 v, .slice A ts.length c, .int .i64 nx] #[.int .i64 v, .slice B ts.length d, .int .i64 nx])
  clear hA hB
  go_enter Tryd.func45, Tryd.ntmps45
  go_wp2_with fail
  go_loopg [5] ts.length (fun gg u5 wr => ∃ k : Nat, k ≤ ts.length ∧ ts.length - k ≤ gg ∧ u5 = .int .i64 k ∧ Aside0 (SsSt w wr #[.int .i64 v, .slice A ts.length c, .int .i64 nx] #[.int .i64 v, .slice B ts.length d, .int .i64 nx]))
  case atStart => exact ⟨0, Nat.zero_le _, by omega, rfl, HS⟩
  case round =>
    obtain ⟨k, hk, hg, rfl, HT⟩ := hrel
    clear HS
    have k1 := (Go.Proofs.YtjgomlcdmpcoaaaDoorW.PrintWords.blk_cell HT.out.x1 1).trans (rfl : _ = some (Value.slice A ts.length c))
    have j1 := (Go.Proofs.YtjgomlcdmpcoaaaDoorW.PrintWords.blk_cell HT.out.x2 1).trans (rfl : _ = some (Value.slice B ts.length d))
    by_cases hlt : k < ts.length
    · have hltz : (k : Int) < (ts.length : Int) := by omega
      have hk0 : (0 : Int) ≤ (k : Int) := by omega
      obtain ⟨ad, A2, a2, A3, a3, eA, p0, p1, p2, p3, p4, la2, ga2, la3, ga3⟩ := at_T70 (Kd.C_below HA.out HT.out.below) (k : Int) (by omega) (by omega)
      cases eA
      obtain ⟨bd, B2, b2, B3, b3, eB, q0, q1, q2, q3, q4, lb2, gb2, lb3, gb3⟩ := at_T70 (Kd.C_below HB.out HT.out.below) (k : Int) (by omega) (by omega)
      cases eB
      simp only [Int.toNat_natCast] at p0 p1 p2 p3 p4 q0 q1 q2 q3 q4
      generalize rd_T70 ts (k : Int) = t at p0 p1 p2 p3 p4 q0 q1 q2 q3 q4 la2 ga2 la3 ga3 lb2 gb2 lb3 gb3
      have HC := Lib.hid (fun w' (hb : Below wr.heap.size wr w') => sametab_eq t A2 B2 A3 B3 a2 b2 a3 b3 w' (Kd.C_below ga2 hb) (Kd.C_below gb2 hb) (Kd.C_below ga3 hb) (Kd.C_below gb3 hb))
      clear la2 ga2 la3 ga3 lb2 gb2 lb3 gb3
      go_wp2_with fail
      go_region_law ((go_simp; go_at_call 56; refine (HC.out _ (below_drew (Below.refl _ _))).mono ?_; rintro e w2 ⟨rfl, hb0⟩; have hb2 := below_of_drew' hb0))
      all_goals
        have HT3 := Aside0.mk (HT.out.step hb2)
        clear hb2 p0 p1 p2 p3 p4 q0 q1 q2 q3 q4 k1 j1 HT
        go_wp2
        go_roundg (ts.length - (k + 1))
        case measure => omega
        case rel => exact ⟨k + 1, by omega, by omega, by go_num, HT3⟩
    · have hltz : ¬ (k : Int) < (ts.length : Int) := by omega
      go_wp2
      go_ret
      exact ⟨rfl, HT.out.below⟩
end Go.Proofs.YtjgomlcdmpcoaaaDoor.H
namespace Go.Proofs.YtjgomlcdmpcoaaaDoor.H
open Go.RowKit Go.Proofs.YtjgomlcdmpcoaaaDoorW.PrintWords Go.Proofs.YtjgomlcdmpcoaaaDoorW.PrintLast Go.Proofs.YtjgomlcdmpcoaaaDoorW.PrintMore
open Go.Proofs.YtjgomlcdmpcoaaaDoor.D Go.Proofs.YtjgomlcdmpcoaaaDoor
set_option linter.unusedVariables false
set_option maxRecDepth 100000 in
set_option maxHeartbeats 4000000 in
theorem descBack_no (v : Int) (ts : List S70) (nx : Int) (hwf : ∀ t ∈ ts, TabWf t) (A : Option Addr) (c : Nat) (w : World) (hG : GL w) (hc : ts.length ≤ c) (g2 : k70.C w A ts.length ts) (gb : Bool)
    (hgb : ∀ (A : Option Addr) (c : Nat) (w : World), ts.length ≤ c → k70.C w A ts.length ts → Calls Tryd.prog 25 #[.agg #[.int .i64 v, .slice A ts.length c, .int .i64 nx]] w fun e w' => e = .returned (.bool gb) ∧ Below w.heap.size w w')
    (hno : gb = true ∨ schB v ts nx = false) :
    Calls Tryd.prog 13 #[.agg #[.int .i64 v, .slice A ts.length c, .int .i64 nx]] w fun e w' => e = .returned (.bool true) ∧ Below w.heap.size w w' := by
  have H1 := Lib.hid (fun w' h => hgb A c w' hc h)
  have H2 := Lib.hid (fun w' h1 h2 => dput_calls v ts nx hwf A c w' h1 h2)
  have H3 := Lib.hid (fun w' h1 h2 => may_calls v ts nx hwf A c w' h1 h2)
  have H4 := Lib.hid awake6_calls
  have HG := Aside0.mk hG
  have HC := Aside0.mk g2
  cases gb with
  | true =>
    clear hgb hG g2 hwf H2 H3
    go_enter Tryd.func13, Tryd.ntmps13
    go_wp2_with fail
    refine (H1.out _ (Kd.C_below HC.out (below_alloc (Below.refl _ _) _))).mono ?_
    rintro e w1 ⟨rfl, hb1⟩
    have HB1 := Aside0.mk (below_then (below_alloc (Below.refl _ _) _) (by simp) hb1 : Below w.heap.size w w1)
    clear hb1
    go_wp2_with fail
    refine (H4.out _ (HG.out.of_below HB1.out)).mono ?_
    rintro e w2 ⟨rfl, hb2⟩
    have HB2 := Aside0.mk (below_then HB1.out HB1.out.size hb2)
    clear hb2
    go_wp2
    go_ret
    exact ⟨rfl, HB2.out⟩
  | false =>
    have hS : schB v ts nx = false := hno.resolve_left (by decide)
    rw [show putS v ts nx = ⟨#[]⟩ by unfold putS; rw [if_neg (by rw [hS]; decide)], show putE v ts nx = 3 by unfold putE; rw [if_neg (by rw [hS]; decide)]] at H2
    rw [hS] at H3
    clear hgb hG g2 hwf hS hno
    go_enter Tryd.func13, Tryd.ntmps13
    go_wp2_with fail
    refine (H1.out _ (Kd.C_below HC.out (below_alloc (Below.refl _ _) _))).mono ?_
    rintro e w1 ⟨rfl, hb1⟩
    have HB1 := Aside0.mk (below_then (below_alloc (Below.refl _ _) _) (by simp) hb1 : Below w.heap.size w w1)
    have hx1 := blk_below (heap_alloc_new w (.cells #[.int .i64 v, .slice A ts.length c, .int .i64 nx] 28)) hb1
    have HX1 := Aside0.mk hx1
    have a0 := H.blk_cell (j := 0) (v := .int .i64 v) hx1 rfl
    have a1 := H.blk_cell (j := 1) (v := .slice A ts.length c) hx1 rfl
    have a2 := H.blk_cell (j := 2) (v := .int .i64 nx) hx1 rfl
    clear hb1 hx1
    go_wp2_with fail
    refine (H2.out _ (HG.out.of_below HB1.out) (Kd.C_below HC.out HB1.out)).mono ?_
    rintro e w2 ⟨rfl, hb2⟩
    have HB2 := Aside0.mk (below_then HB1.out HB1.out.size hb2)
    have hx2 := blk_below HX1.out hb2
    have b0 := H.blk_cell (j := 0) (v := .int .i64 v) hx2 rfl
    have b1 := H.blk_cell (j := 1) (v := .slice A ts.length c) hx2 rfl
    have b2 := H.blk_cell (j := 2) (v := .int .i64 nx) hx2 rfl
    clear hb2 hx2 a0 a1 a2
    go_wp2_with (go_at_call 40; refine (num6_calls _ _).mono ?_; rintro e w' ⟨rfl, rfl⟩)
    refine (H3.out _ (HG.out.of_below HB2.out) (Kd.C_below HC.out HB2.out)).mono ?_
    rintro e w3 ⟨rfl, hb3⟩
    have HB3 := Aside0.mk (below_then HB2.out HB2.out.size hb3)
    clear hb3 b0 b1 b2
    go_wp2_with fail
    refine (H4.out _ (HG.out.of_below HB3.out)).mono ?_
    rintro e w4 ⟨rfl, hb4⟩
    have HB4 := Aside0.mk (below_then HB3.out HB3.out.size hb4)
    clear hb4
    go_wp2
    go_ret
    exact ⟨rfl, HB4.out⟩
end Go.Proofs.YtjgomlcdmpcoaaaDoor.H
namespace Go.Proofs.YtjgomlcdmpcoaaaDoor.H
open Go.RowKit Go.Proofs.YtjgomlcdmpcoaaaDoorW.PrintWords Go.Proofs.YtjgomlcdmpcoaaaDoorW.PrintLast Go.Proofs.YtjgomlcdmpcoaaaDoorW.PrintMore
open Go.Proofs.YtjgomlcdmpcoaaaDoor.D Go.Proofs.YtjgomlcdmpcoaaaDoor
set_option linter.unusedVariables false
structure DB (w W : World) (base : Nat) (x y : Array Value) (gy : Nat) (A : Option Addr) (n : Nat) : Prop where
  below : Below w.heap.size w W
  xb : W.heap[w.heap.size]? = some (.cells x 28 (0, 0))
  yb : W.heap[gy]? = some (.cells y 28 (0, 0))
  sp : 0 < n → ∃ g, A = some ⟨g, 0, none⟩ ∧ Spoil W base g n
theorem DB.cell_same {w W : World} {a : Addr} (h : w.heap[a.block]? = W.heap[a.block]?) : w.cell? a = W.cell? a := by simp [World.cell?, h]
theorem DB.put {w W : World} {base : Nat} {x y : Array Value} {gy : Nat} {A : Option Addr} {n b j t : Nat} {ds : Array Value} (h : DB w W base x y gy A n) (hbase : w.heap.size ≤ base) (hb : base ≤ b) (hd : W.heap[b]? = some (.cells ds t (0, 0))) (ht : 28 ≠ t) (u : Value)
    (hs : 0 < n → ∃ g, A = some ⟨g, 0, none⟩ ∧ Spoil (W.setCell ⟨b, j, none⟩ u) base g n) : DB w (W.setCell ⟨b, j, none⟩ u) base x y gy A n :=
  ⟨h.below.setCell (p := ⟨b, j, none⟩) (show w.heap.size ≤ b from Nat.le_trans hbase hb) _, blk_far h.xb (p := ⟨b, j, none⟩) (blk_ne h.xb hd ht) _, blk_far h.yb (p := ⟨b, j, none⟩) (blk_ne h.yb hd ht) _, hs⟩
set_option maxRecDepth 100000 in
set_option maxHeartbeats 4000000 in
theorem descBack_yes (v : Int) (ts : List S70) (nx : Int) (hwf : ∀ t ∈ ts, TabWf2 t) (A : Option Addr) (c : Nat) (w : World) (hG : GL w) (hc : ts.length ≤ c) (g2 : k70.C w A ts.length ts)
    (hgb : ∀ (A : Option Addr) (c : Nat) (w : World), ts.length ≤ c → k70.C w A ts.length ts → Calls Tryd.prog 25 #[.agg #[.int .i64 v, .slice A ts.length c, .int .i64 nx]] w fun e w' => e = .returned (.bool false) ∧ Below w.heap.size w w')
    (hS : schB v ts nx = true) :
    Calls Tryd.prog 13 #[.agg #[.int .i64 v, .slice A ts.length c, .int .i64 nx]] w fun e w' => e = .returned (.bool true) ∧ Below w.heap.size w w' := by
  have H1 := Lib.hid (fun w' h => hgb A c w' hc h)
  have H2 := Lib.hid (fun w' h1 h2 => dput_calls v ts nx (fun t ht => (hwf t ht).1) A c w' h1 h2)
  have H4 := Lib.hid awake6_calls
  have H5 := Lib.hid (fun w' h1 => dget_put v ts nx w' h1 hS hwf)
  have H6 := Lib.hid (fun A B c d w' h1 h2 => same_eq v nx ts A B c d w' h1 h2)
  have HG := Aside0.mk hG
  have HC := Aside0.mk g2
  rw [show putE v ts nx = 0 by unfold putE; rw [if_pos hS]] at H2
  obtain ⟨s, hs⟩ : ∃ s, putS v ts nx = s := ⟨_, rfl⟩
  rw [hs] at H2 H5
  clear hgb hG g2 hwf hS hs
  go_enter Tryd.func13, Tryd.ntmps13
  go_wp2_with fail
  refine (H1.out _ (Kd.C_below HC.out (below_alloc (Below.refl _ _) _))).mono ?_
  rintro e w1 ⟨rfl, hb1⟩
  have HB1 := Aside0.mk (below_then (below_alloc (Below.refl _ _) _) (by simp) hb1 : Below w.heap.size w w1)
  have hx1 := blk_below (heap_alloc_new w (.cells #[.int .i64 v, .slice A ts.length c, .int .i64 nx] 28)) hb1
  have HX1 := Aside0.mk hx1
  have a0 := H.blk_cell (j := 0) (v := .int .i64 v) hx1 rfl
  have a1 := H.blk_cell (j := 1) (v := .slice A ts.length c) hx1 rfl
  have a2 := H.blk_cell (j := 2) (v := .int .i64 nx) hx1 rfl
  clear hb1 hx1
  go_wp2_with fail
  refine (H2.out _ (HG.out.of_below HB1.out) (Kd.C_below HC.out HB1.out)).mono ?_
  rintro e w2 ⟨rfl, hb2⟩
  have HB2 := Aside0.mk (below_then HB1.out HB1.out.size hb2)
  have HX2 := Aside0.mk (blk_below HX1.out hb2)
  clear hb2 a0 a1 a2 HX1
  go_wp2_with (go_at_call 40; refine (num6_calls _ _).mono ?_; rintro e w' ⟨rfl, rfl⟩)
  refine (H5.out _ (HG.out.of_below HB2.out)).mono ?_
  rintro e w3 ⟨hb3, A3, c3, rfl, hR⟩
  have HB3 := Aside0.mk (below_then HB2.out HB2.out.size hb3)
  have hx3 := blk_below HX2.out hb3
  have HX3 := Aside0.mk hx3
  have hx4 := blk_alloc hx3 (.cells #[.int .i64 v, .slice A3 ts.length c3, .int .i64 nx] 28)
  have b0 := H.blk_cell (j := 0) (v := .int .i64 v) hx4 rfl
  have b1 := H.blk_cell (j := 1) (v := .slice A ts.length c) hx4 rfl
  have b2 := H.blk_cell (j := 2) (v := .int .i64 nx) hx4 rfl
  have HR := Aside0.mk hR
  clear hx4
  clear hb3 hx3 hR HX2
  go_wp2_with (go_at_call 40; refine (num6_calls _ _).mono ?_; rintro e w' ⟨rfl, rfl⟩)
  have hba := below_alloc HB3.out (.cells #[.int .i64 v, .slice A3 ts.length c3, .int .i64 nx] 28)
  refine (H6.out A A3 c c3 _ (Kd.C_below HC.out hba) (Kd.C_below (Kd.R_reads' HR.out).2.2 (below_alloc (Below.refl _ _) _))).mono ?_
  rintro e w4 ⟨rfl, hb4⟩
  have HB4 := Aside0.mk (below_then hba (by have := HB3.out.size; simp; omega) hb4)
  have HX4 := Aside0.mk (blk_below (blk_alloc HX3.out (.cells #[.int .i64 v, .slice A3 ts.length c3, .int .i64 nx] 28)) hb4)
  have HY4 := Aside0.mk (blk_below (heap_alloc_new w3 (.cells #[.int .i64 v, .slice A3 ts.length c3, .int .i64 nx] 28)) hb4)
  have hlt : w3.heap.size < w4.heap.size := lt_of_block HY4.out
  have HSP := Aside0.mk (Spoil.of_R' HR.out (below_then (below_alloc (Below.refl _ _) _) (by simp) hb4 : Below w3.heap.size w3 w4))
  clear hba hb4 b0 b1 b2 HX3
  have HD := Aside0.mk (DB.mk (base := w2.heap.size) (A := A3) (n := ts.length) HB4.out HX4.out HY4.out HSP.out)
  clear HX4 HY4 HSP
  go_wp2_with fail
  go_loopg [8, 9] ts.length (fun gg u _ wr => ∃ kk : Nat, kk ≤ ts.length ∧ ts.length - kk ≤ gg ∧ u = .int .i64 kk ∧ Aside0 (DB w wr w2.heap.size #[.int .i64 v, .slice A ts.length c, .int .i64 nx] #[.int .i64 v, .slice A3 ts.length c3, .int .i64 nx] w3.heap.size A3 ts.length))
  case atStart => exact ⟨0, Nat.zero_le _, by omega, rfl, HD⟩
  case round =>
    obtain ⟨kk, hkk, hgg, rfl, HD'⟩ := hrel
    clear HD
    have y1 := H.blk_cell (j := 1) (v := .slice A3 ts.length c3) HD'.out.yb rfl
    by_cases hlt2 : kk < ts.length
    · have hltz : (kk : Int) < (ts.length : Int) := by omega
      obtain ⟨g, eA, hsp⟩ := HD'.out.sp (by omega)
      subst eA
      have HSP := Lib.hid hsp
      obtain ⟨hgb, cs, hcs, hcz, hrow⟩ := hsp
      have HW2 := Lib.hid (show w.heap.size ≤ w2.heap.size from HB2.out.size)
      have HDN := Aside0.mk (HD'.out.put HW2.out hgb hcs (by decide) (j := kk * 5 + 1) (.string ⟨#[63]⟩) (fun _ => ⟨g, rfl, HSP.out.name kk _⟩))
      obtain ⟨nv, hnv⟩ : ∃ nv, cs[kk * 5 + 1]? = some nv := ⟨cs[kk * 5 + 1]'(by omega), Array.getElem?_eq_getElem (by omega)⟩
      have c1 := H.blk_cell hcs hnv
      have hgl : g < wr.heap.size := lt_of_block hcs
      have f1 : wr.frozen? ⟨g, kk * 5 + 1, none⟩ = false := blk_frozen hcs (kk * 5 + 1)
      clear hrow hcz hnv
      clear hcs
      go_wp2_with fail
      clear c1 f1 y1 HSP HD' hgl
      generalize wr.setCell ⟨g, kk * 5 + 1, none⟩ (.string ⟨#[63]⟩) = wq at HDN ⊢
      have y1 := H.blk_cell (j := 1) (v := .slice (some ⟨g, 0, none⟩) ts.length c3) HDN.out.yb rfl
      obtain ⟨g', eg, hsp⟩ := HDN.out.sp (by omega)
      obtain rfl : g = g' := by injection eg with eg; injection eg
      obtain ⟨-, cs, hcs, hcz, hrow⟩ := hsp
      obtain ⟨A2, m, cc, h2, hcol⟩ := hrow kk hlt2
      have c2 := H.blk_cell hcs h2
      clear hcs hcz hrow h2
      have HC2 := Aside0.mk c2
      have HCOL := Aside0.mk hcol
      clear c2 hcol eg
      go_wp2_with fail
      clear y1
      go_loopg [9] m (fun gg u wr => ∃ j : Nat, j ≤ m ∧ m - j ≤ gg ∧ u = .int .i64 j ∧ Aside0 (DB w wr w2.heap.size #[.int .i64 v, .slice A ts.length c, .int .i64 nx] #[.int .i64 v, .slice (some ⟨g, 0, none⟩) ts.length c3, .int .i64 nx] w3.heap.size (some ⟨g, 0, none⟩) ts.length) ∧ Aside0 (wr.cell? ⟨g, kk * 5 + 2, none⟩ = some (.slice A2 m cc)) ∧ Aside0 (ColsAt wr w2.heap.size A2 m))
      case atStart => exact ⟨0, Nat.zero_le _, by omega, rfl, HDN, HC2, HCOL⟩
      case round =>
        clear HDN HC2 HCOL
        obtain ⟨j, hj, hgj, rfl, HDN, HC2, HCOL⟩ := hrel
        have y1 := H.blk_cell (j := 1) (v := .slice (some ⟨g, 0, none⟩) ts.length c3) HDN.out.yb rfl
        have c2 := HC2.out
        by_cases hlt3 : j < m
        · have hltj : (j : Int) < (m : Int) := by omega
          have hmx := HCOL.out.1
          obtain ⟨b, ds, eb, hbb, hd, hds⟩ := HCOL.out.2 (by omega)
          have hbl : b < wr.heap.size := lt_of_block hd
          obtain ⟨nv, hnv⟩ : ∃ nv, ds[j * 9]? = some nv := ⟨ds[j * 9]'(by omega), Array.getElem?_eq_getElem (by omega)⟩
          have c0 := H.blk_cell hd hnv
          have f0 : wr.frozen? ⟨b, j * 9, none⟩ = false := blk_frozen hd (j * 9)
          have HN1 := Aside0.mk (HDN.out.put HW2.out hbb hd (by decide) (j := j * 9) (.int .i64 (-1)) (fun hn => by obtain ⟨g', eg, hsp⟩ := HDN.out.sp hn; exact ⟨g', eg, hsp.col hd _ _⟩))
          obtain ⟨g', eg, -, dg, hdg, -⟩ := HDN.out.sp (by omega)
          obtain rfl : g = g' := by injection eg with eg; injection eg
          have HN2 := Aside0.mk (show (wr.setCell ⟨b, j * 9, none⟩ (.int .i64 (-1))).cell? ⟨g, kk * 5 + 2, none⟩ = some (.slice A2 m cc) by rw [← HC2.out]; exact DB.cell_same (Below.heap_setCell _ _ _ _ (blk_ne hdg hd (by decide))))
          have HN3 := Aside0.mk (HCOL.out.set hd (j * 9) (.int .i64 (-1)))
          clear hnv hd hds hdg eg
          rw [eb] at c2
          go_wp2_with fail
          go_roundg (m - (j + 1))
          case measure => omega
          case rel => exact ⟨j + 1, by omega, by omega, by go_num, HN1, HN2, HN3⟩
        · have hltj : ¬ (j : Int) < (m : Int) := by omega
          have hbig := HC.out.2.1
          go_wp2_with fail
          go_roundg (ts.length - (kk + 1))
          case measure => omega
          case rel => exact ⟨kk + 1, by omega, by omega, by go_num, HDN⟩
    · have hge : decide ((kk : Int) < (ts.length : Int)) = false := decide_eq_false (by omega)
      go_wp2_with fail
      refine (H5.out _ (HG.out.of_below HD'.out.below)).mono ?_
      rintro e w5 ⟨hb5, A5, c5, rfl, hR5⟩
      have HB5 := Aside0.mk (below_then HD'.out.below HD'.out.below.size hb5)
      have hx6 := blk_alloc (blk_below HD'.out.xb hb5) (.cells #[.int .i64 v, .slice A5 ts.length c5, .int .i64 nx] 28)
      have b0 := H.blk_cell (j := 0) (v := .int .i64 v) hx6 rfl
      have b1 := H.blk_cell (j := 1) (v := .slice A ts.length c) hx6 rfl
      have b2 := H.blk_cell (j := 2) (v := .int .i64 nx) hx6 rfl
      have HR5 := Aside0.mk hR5
      clear hb5 hx6 hR5 y1
      go_wp2_with fail
      have hba := below_alloc HB5.out (.cells #[.int .i64 v, .slice A5 ts.length c5, .int .i64 nx] 28)
      refine (H6.out A A5 c c5 _ (Kd.C_below HC.out hba) (Kd.C_below (Kd.R_reads' HR5.out).2.2 (below_alloc (Below.refl _ _) _))).mono ?_
      rintro e w6 ⟨rfl, hb6⟩
      have HB6 := Aside0.mk (below_then hba (by have := HB5.out.size; simp; omega) hb6)
      clear hba hb6 b0 b1 b2
      go_wp2_with fail
      refine (H4.out _ (HG.out.of_below HB6.out)).mono ?_
      rintro e w7 ⟨rfl, hb7⟩
      have HB7 := Aside0.mk (below_then HB6.out HB6.out.size hb7)
      clear hb7
      go_wp2
      go_ret
      exact ⟨rfl, HB7.out⟩
theorem descBack_calls (v : Int) (ts : List S70) (nx : Int) (hwf : ∀ t ∈ ts, TabWf2 t) (A : Option Addr) (c : Nat) (w : World) (hG : GL w) (hc : ts.length ≤ c) (g2 : k70.C w A ts.length ts) :
    Calls Tryd.prog 13 #[.agg #[.int .i64 v, .slice A ts.length c, .int .i64 nx]] w fun e w' => e = .returned (.bool true) ∧ Below w.heap.size w w' := by
  obtain ⟨gb, hgb⟩ := great_calls v ts nx
  cases gb with
  | true => exact descBack_no v ts nx (fun t ht => (hwf t ht).1) A c w hG hc g2 true hgb (.inl rfl)
  | false =>
    cases hS : schB v ts nx with
    | false => exact descBack_no v ts nx (fun t ht => (hwf t ht).1) A c w hG hc g2 false hgb (.inr hS)
    | true => exact descBack_yes v ts nx hwf A c w hG hc g2 hgb hS
end Go.Proofs.YtjgomlcdmpcoaaaDoor.H
