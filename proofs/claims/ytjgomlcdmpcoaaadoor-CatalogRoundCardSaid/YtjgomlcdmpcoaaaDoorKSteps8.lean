/- Own texts of this session, packed by its program wip/pp/pack.py: lemmas and walks of functions. -/
import Derived.Deep.RegionHeld3
import Derived.Deep.RegionLaw
import Derived.Deep.CutRange
import Derived.Test.YtjgomlcdmpcoaaaDoorKSteps1
import Derived.Test.YtjgomlcdmpcoaaaDoorKSteps7
namespace Go.Proofs.YtjgomlcdmpcoaaaDoor.H
open Go.RowKit Go.Proofs.YtjgomlcdmpcoaaaDoorW.PrintWords Go.Proofs.YtjgomlcdmpcoaaaDoorW.PrintLast Go.Proofs.YtjgomlcdmpcoaaaDoorW.PrintMore
open Go.Proofs.YtjgomlcdmpcoaaaDoor.D Go.Proofs.YtjgomlcdmpcoaaaDoor
set_option linter.unusedVariables false
set_option linter.unusedSimpArgs false
def Pred1 {α : Type} (enc : α → Value) (g : Nat) (lb : Array Value) (p : α → Bool) (w : World) : Prop :=
  ∀ (W : World) (x : α), Below w.heap.size w W → Calls Tryd.prog g (#[enc x] ++ lb) W fun e w' => e = .returned (.bool (p x)) ∧ Below w.heap.size w w'
set_option maxHeartbeats 4000000 in
set_option maxRecDepth 100000 in
theorem idx140 (g : Nat) (lb : Array Value) (eg : ∀ args w, (callFunc g args).run Tryd.prog w = .ok (.enter g args) w) (p : ByteArray → Bool) (A : Option Addr) (c : Nat) (xs : List ByteArray) (w : World)
    (hA : Kd.string.C w A xs.length xs) (hp : Pred1 Value.string g lb p w) :
    Calls Tryd.prog 140 #[.slice A xs.length c, .func (.func g) #[] lb] w fun e w' => e = .returned (.int .i64 (idxL p xs 0)) ∧ Below w.heap.size w w' := by
  have HA := Lib.hid hA
  have hbig := hA.2.1
  have HP := Lib.hid hp
  have HE := Lib.hid eg
  clear hA hp eg
  go_enter Tryd.func140, Tryd.ntmps140
  go_wp2
  go_loopg [5, 8] xs.length (fun gg _ s8 wr => ∃ kk : Nat, kk ≤ xs.length ∧ xs.length - kk ≤ gg ∧ s8 = .int .i64 kk ∧ Aside0 (Below w.heap.size w wr) ∧ Aside0 (idxL p xs 0 = idxL p (xs.drop kk) kk))
  case atStart => exact ⟨0, Nat.zero_le _, by omega, rfl, ⟨Below.refl _ w⟩, ⟨rfl⟩⟩
  case round =>
    obtain ⟨kk, hkk, hg, rfl, BW, hI⟩ := hrel
    by_cases hlt : kk < xs.length
    · have hltz : (kk : Int) < (xs.length : Int) := by omega
      have hd : xs.drop kk = xs[kk] :: xs.drop (kk + 1) := List.drop_eq_getElem_cons hlt
      have hC := Kd.C_below HA.out BW.out
      obtain ⟨ad, eA, h0⟩ := at_str hC kk hlt
      have hcall := HP.out wr xs[kk] BW.out
      generalize xs[kk] = x at hd hcall h0
      rw [hd] at hI
      cases eA
      have HI := Lib.hid hI
      clear hI hd
      cases hq : p x with
      | true =>
        rw [hq] at hcall
        have HQ := Lib.hid hq
        clear hq
        have HC := Lib.hid hcall
        clear hcall
        go_wp2_with fail
        rw [HE.out, Oper.upon_enter]
        refine HC.out.mono ?_
        rintro e w' ⟨rfl, hb'⟩
        go_wp2
        go_ret
        refine ⟨?_, hb'⟩
        rw [HI.out.out]
        simp [idxL, HQ.out]
      | false =>
        rw [hq] at hcall
        have HQ := Lib.hid hq
        clear hq
        have HC := Lib.hid hcall
        clear hcall
        go_wp2_with fail
        rw [HE.out, Oper.upon_enter]
        refine HC.out.mono ?_
        rintro e w' ⟨rfl, hb'⟩
        go_wp2
        go_roundg (xs.length - (kk + 1))
        case measure => omega
        case rel =>
          refine ⟨kk + 1, by omega, by omega, by go_num, ⟨hb'⟩, ⟨?_⟩⟩
          rw [HI.out.out]
          simp [idxL, HQ.out]
    · have hltz : ¬ (kk : Int) < (xs.length : Int) := by omega
      have hd : xs.drop kk = [] := List.drop_eq_nil_of_le (by omega)
      rw [hd] at hI
      have HI := Lib.hid hI
      clear hI hd
      go_wp2
      go_ret
      refine ⟨?_, BW.out⟩
      rw [HI.out.out]
      rfl
set_option maxHeartbeats 1000000 in
set_option maxRecDepth 100000 in
theorem any94 (g : Nat) (lb : Array Value) (eg : ∀ args w, (callFunc g args).run Tryd.prog w = .ok (.enter g args) w) (p : ByteArray → Bool) (A : Option Addr) (c : Nat) (xs : List ByteArray) (w : World)
    (hA : Kd.string.C w A xs.length xs) (hp : Pred1 Value.string g lb p w) :
    Calls Tryd.prog 94 #[.slice A xs.length c, .func (.func g) #[] lb] w fun e w' => e = .returned (.bool (xs.any p)) ∧ Below w.heap.size w w' := by
  have hc := Lib.hid (idx140 g lb eg p A c xs w hA hp)
  have hi := Lib.hid (idxL_any p xs 0)
  clear hA hp eg
  go_enter Tryd.func94, Tryd.ntmps94
  go_wp2_with (go_at_call 140; refine hc.out.mono ?_; rintro e w' ⟨rfl, hb⟩)
  go_ret
  exact ⟨by rw [← hi.out]; rfl, hb⟩
set_option maxHeartbeats 4000000 in
set_option maxRecDepth 100000 in
theorem idx141 (g : Nat) (lb : Array Value) (eg : ∀ args w, (callFunc g args).run Tryd.prog w = .ok (.enter g args) w) (p : Int → Bool) (A : Option Addr) (c : Nat) (xs : List Int) (w : World)
    (hA : (Kd.int .i64).C w A xs.length xs) (hp : Pred1 (Value.int .i64) g lb p w) :
    Calls Tryd.prog 141 #[.slice A xs.length c, .func (.func g) #[] lb] w fun e w' => e = .returned (.int .i64 (idxL p xs 0)) ∧ Below w.heap.size w w' := by
  have HA := Lib.hid hA
  have hbig := hA.2.1
  have HP := Lib.hid hp
  have HE := Lib.hid eg
  clear hA hp eg
  go_enter Tryd.func141, Tryd.ntmps141
  go_wp2
  go_loopg [5, 8] xs.length (fun gg _ s8 wr => ∃ kk : Nat, kk ≤ xs.length ∧ xs.length - kk ≤ gg ∧ s8 = .int .i64 kk ∧ Aside0 (Below w.heap.size w wr) ∧ Aside0 (idxL p xs 0 = idxL p (xs.drop kk) kk))
  case atStart => exact ⟨0, Nat.zero_le _, by omega, rfl, ⟨Below.refl _ w⟩, ⟨rfl⟩⟩
  case round =>
    obtain ⟨kk, hkk, hg, rfl, BW, hI⟩ := hrel
    by_cases hlt : kk < xs.length
    · have hltz : (kk : Int) < (xs.length : Int) := by omega
      have hd : xs.drop kk = xs[kk] :: xs.drop (kk + 1) := List.drop_eq_getElem_cons hlt
      have hC := Kd.C_below HA.out BW.out
      obtain ⟨ad, eA, h0⟩ := at_int hC kk hlt
      have hcall := HP.out wr xs[kk] BW.out
      generalize xs[kk] = x at hd hcall h0
      rw [hd] at hI
      cases eA
      have HI := Lib.hid hI
      clear hI hd
      cases hq : p x with
      | true =>
        rw [hq] at hcall
        have HQ := Lib.hid hq
        clear hq
        have HC := Lib.hid hcall
        clear hcall
        go_wp2_with fail
        rw [HE.out, Oper.upon_enter]
        refine HC.out.mono ?_
        rintro e w' ⟨rfl, hb'⟩
        go_wp2
        go_ret
        refine ⟨?_, hb'⟩
        rw [HI.out.out]
        simp [idxL, HQ.out]
      | false =>
        rw [hq] at hcall
        have HQ := Lib.hid hq
        clear hq
        have HC := Lib.hid hcall
        clear hcall
        go_wp2_with fail
        rw [HE.out, Oper.upon_enter]
        refine HC.out.mono ?_
        rintro e w' ⟨rfl, hb'⟩
        go_wp2
        go_roundg (xs.length - (kk + 1))
        case measure => omega
        case rel =>
          refine ⟨kk + 1, by omega, by omega, by go_num, ⟨hb'⟩, ⟨?_⟩⟩
          rw [HI.out.out]
          simp [idxL, HQ.out]
    · have hltz : ¬ (kk : Int) < (xs.length : Int) := by omega
      have hd : xs.drop kk = [] := List.drop_eq_nil_of_le (by omega)
      rw [hd] at hI
      have HI := Lib.hid hI
      clear hI hd
      go_wp2
      go_ret
      refine ⟨?_, BW.out⟩
      rw [HI.out.out]
      rfl
set_option maxHeartbeats 1000000 in
set_option maxRecDepth 100000 in
theorem any95 (g : Nat) (lb : Array Value) (eg : ∀ args w, (callFunc g args).run Tryd.prog w = .ok (.enter g args) w) (p : Int → Bool) (A : Option Addr) (c : Nat) (xs : List Int) (w : World)
    (hA : (Kd.int .i64).C w A xs.length xs) (hp : Pred1 (Value.int .i64) g lb p w) :
    Calls Tryd.prog 95 #[.slice A xs.length c, .func (.func g) #[] lb] w fun e w' => e = .returned (.bool (xs.any p)) ∧ Below w.heap.size w w' := by
  have hc := Lib.hid (idx141 g lb eg p A c xs w hA hp)
  have hi := Lib.hid (idxL_any p xs 0)
  clear hA hp eg
  go_enter Tryd.func95, Tryd.ntmps95
  go_wp2_with (go_at_call 141; refine hc.out.mono ?_; rintro e w' ⟨rfl, hb⟩)
  go_ret
  exact ⟨by rw [← hi.out]; rfl, hb⟩
set_option maxHeartbeats 1000000 in
set_option maxRecDepth 100000 in
theorem any172 (g : Nat) (lb : Array Value) (eg : ∀ args w, (callFunc g args).run Tryd.prog w = .ok (.enter g args) w) (p : S98 → Bool) (A : Option Addr) (c : Nat) (xs : List S98) (w : World)
    (hA : k98.C w A xs.length xs) (hp : Pred k98 g lb p w) :
    Calls Tryd.prog 172 #[.slice A xs.length c, .func (.func g) #[] lb] w fun e w' => e = .returned (.bool (xs.any p)) ∧ Below w.heap.size w w' := by
  have hc := Lib.hid (idx98 g lb eg p A c xs w hA hp)
  have hi := Lib.hid (idxL_any p xs 0)
  clear hA hp eg
  go_enter Tryd.func172, Tryd.ntmps172
  go_wp2_with (go_at_call 168; refine hc.out.mono ?_; rintro e w' ⟨rfl, hb⟩)
  go_ret
  exact ⟨by rw [← hi.out]; rfl, hb⟩
def cNamed (n : ByteArray) (sh : Bool) (c : S75) : Bool := decide (c.f1.toList = n.toList) && (!sh || decide (c.f3 = 4))
def xNamed (n : ByteArray) (sh : Bool) (x : S98) : Bool := decide (x.f1.toList = n.toList) && (!sh || decide (x.f4 = 4))
set_option maxHeartbeats 2000000 in
theorem pred169 (n : ByteArray) (sh : Bool) (B1 B2 : Nat) (w : World) (h1 : B1 < w.heap.size) (h2 : B2 < w.heap.size) (hc1 : w.cell? ⟨B1, 0, none⟩ = some (.string n)) (hc2 : w.cell? ⟨B2, 0, none⟩ = some (.bool sh)) :
    Pred k98 169 #[.pointer (some ⟨B1, 0, none⟩), .pointer (some ⟨B2, 0, none⟩)] (xNamed n sh) w := by
  intro W x cs hb hK
  obtain ⟨A2, c2, rfl, l2, g2⟩ := k98_open hK
  have hc1' := (hb.cell (p := ⟨B1, 0, none⟩) h1).trans hc1
  have hc2' := (hb.cell (p := ⟨B2, 0, none⟩) h2).trans hc2
  have hl1 : B1 < W.heap.size := Nat.lt_of_lt_of_le h1 hb.size
  have hl2 : B2 < W.heap.size := Nat.lt_of_lt_of_le h2 hb.size
  show Calls Tryd.prog 169 #[.agg #[.int .i64 x.f0, .string x.f1, .slice A2 x.f2.length c2, .bool x.f3, .int .i64 x.f4], .pointer (some ⟨B1, 0, none⟩), .pointer (some ⟨B2, 0, none⟩)] W _
  have HB := Aside0.mk hb
  obtain ⟨r, hr⟩ : ∃ r, xNamed n sh x = r := ⟨_, rfl⟩
  rw [hr]
  have HR := Lib.hid hr
  clear hb hc1 hc2 hK hr
  by_cases hn : x.f1.toList = n.toList
  · have hq : (x.f1.toList == n.toList) = true := by simpa using hn
    have HR2 := Lib.hid (show (!sh || decide (x.f4 = 4)) = r by rw [← HR.out]; unfold xNamed; rw [decide_eq_true hn, Bool.true_and])
    clear hn
    cases sh with
    | false =>
      obtain rfl : true = r := HR2.out
      go_enter Tryd.func169, Tryd.ntmps169
      go_wp2
      go_ret
      exact ⟨rfl, below_then HB.out HB.out.size (below_alloc (Below.refl _ _) _)⟩
    | true =>
      obtain ⟨st, hst⟩ : ∃ st, x.f4 = st := ⟨_, rfl⟩
      rw [hst] at HR2 ⊢
      by_cases h4 : st = 4
      · subst h4
        obtain rfl : true = r := HR2.out
        go_enter Tryd.func169, Tryd.ntmps169
        go_wp2
        go_ret
        exact ⟨rfl, below_then HB.out HB.out.size (below_alloc (Below.refl _ _) _)⟩
      · obtain rfl : false = r := by rw [← HR2.out, decide_eq_false h4]; rfl
        have h4' : (st == 4) = false := by simpa using h4
        clear h4
        go_enter Tryd.func169, Tryd.ntmps169
        go_wp2
        go_ret
        exact ⟨rfl, below_then HB.out HB.out.size (below_alloc (Below.refl _ _) _)⟩
  · have hq : (x.f1.toList == n.toList) = false := by simpa using hn
    obtain rfl : false = r := by rw [← HR.out]; unfold xNamed; rw [decide_eq_false hn, Bool.false_and]
    clear hn
    go_enter Tryd.func169, Tryd.ntmps169
    go_wp2
    all_goals
      go_ret
      exact ⟨rfl, below_then HB.out HB.out.size (below_alloc (Below.refl _ _) _)⟩
theorem enters169 (args : Array Value) (w : World) : (callFunc 169 args).run Tryd.prog w = .ok (.enter 169 args) w := enters Tryd.func169 (by kernel_rfl) rfl args w
set_option maxHeartbeats 2000000 in
theorem pred170 (n : ByteArray) (sh : Bool) (B1 B2 : Nat) (w : World) (h1 : B1 < w.heap.size) (h2 : B2 < w.heap.size) (hc1 : w.cell? ⟨B1, 0, none⟩ = some (.string n)) (hc2 : w.cell? ⟨B2, 0, none⟩ = some (.bool sh)) :
    Pred k75 170 #[.pointer (some ⟨B1, 0, none⟩), .pointer (some ⟨B2, 0, none⟩)] (cNamed n sh) w := by
  intro W x cs hb hK
  obtain rfl := k75_open hK
  have hc1' := (hb.cell (p := ⟨B1, 0, none⟩) h1).trans hc1
  have hc2' := (hb.cell (p := ⟨B2, 0, none⟩) h2).trans hc2
  have hl1 : B1 < W.heap.size := Nat.lt_of_lt_of_le h1 hb.size
  have hl2 : B2 < W.heap.size := Nat.lt_of_lt_of_le h2 hb.size
  show Calls Tryd.prog 170 #[.agg #[.int .i64 x.f0, .string x.f1, .int .i64 x.f2, .int .i64 x.f3, .int .i64 x.f4, .int .i64 x.f5.f0, .int .i64 x.f5.f1, .int .u64 x.f5.f2, .string x.f5.f3], .pointer (some ⟨B1, 0, none⟩), .pointer (some ⟨B2, 0, none⟩)] W _
  have HB := Aside0.mk hb
  obtain ⟨r, hr⟩ : ∃ r, cNamed n sh x = r := ⟨_, rfl⟩
  rw [hr]
  have HR := Lib.hid hr
  clear hb hc1 hc2 hK hr
  by_cases hn : x.f1.toList = n.toList
  · have hq : (x.f1.toList == n.toList) = true := by simpa using hn
    have HR2 := Lib.hid (show (!sh || decide (x.f3 = 4)) = r by rw [← HR.out]; unfold cNamed; rw [decide_eq_true hn, Bool.true_and])
    clear hn
    cases sh with
    | false =>
      obtain rfl : true = r := HR2.out
      go_enter Tryd.func170, Tryd.ntmps170
      go_wp2
      go_ret
      exact ⟨rfl, below_then HB.out HB.out.size (below_alloc (Below.refl _ _) _)⟩
    | true =>
      obtain ⟨st, hst⟩ : ∃ st, x.f3 = st := ⟨_, rfl⟩
      rw [hst] at HR2 ⊢
      by_cases h4 : st = 4
      · subst h4
        obtain rfl : true = r := HR2.out
        go_enter Tryd.func170, Tryd.ntmps170
        go_wp2
        go_ret
        exact ⟨rfl, below_then HB.out HB.out.size (below_alloc (Below.refl _ _) _)⟩
      · obtain rfl : false = r := by rw [← HR2.out, decide_eq_false h4]; rfl
        have h4' : (st == 4) = false := by simpa using h4
        clear h4
        go_enter Tryd.func170, Tryd.ntmps170
        go_wp2
        go_ret
        exact ⟨rfl, below_then HB.out HB.out.size (below_alloc (Below.refl _ _) _)⟩
  · have hq : (x.f1.toList == n.toList) = false := by simpa using hn
    obtain rfl : false = r := by rw [← HR.out]; unfold cNamed; rw [decide_eq_false hn, Bool.false_and]
    clear hn
    go_enter Tryd.func170, Tryd.ntmps170
    go_wp2
    all_goals
      go_ret
      exact ⟨rfl, below_then HB.out HB.out.size (below_alloc (Below.refl _ _) _)⟩
theorem enters170 (args : Array Value) (w : World) : (callFunc 170 args).run Tryd.prog w = .ok (.enter 170 args) w := enters Tryd.func170 (by kernel_rfl) rfl args w
theorem enters173 (args : Array Value) (w : World) : (callFunc 173 args).run Tryd.prog w = .ok (.enter 173 args) w := enters Tryd.func173 (by kernel_rfl) rfl args w
theorem enters93 (args : Array Value) (w : World) : (callFunc 93 args).run Tryd.prog w = .ok (.enter 93 args) w := enters Tryd.func93 (by kernel_rfl) rfl args w
theorem enters96 (args : Array Value) (w : World) : (callFunc 96 args).run Tryd.prog w = .ok (.enter 96 args) w := enters Tryd.func96 (by kernel_rfl) rfl args w
set_option maxHeartbeats 1000000 in
theorem pred173 (id : Int) (B : Nat) (w : World) (hB : B < w.heap.size) (hc : w.cell? ⟨B, 0, none⟩ = some (.int .i64 id)) : Pred k98 173 #[.pointer (some ⟨B, 0, none⟩)] (fun x => x.f2.contains id) w := by
  intro W x cs hb hK
  obtain ⟨A2, c2, rfl, l2, g2⟩ := k98_open hK
  have hc' := (hb.cell (p := ⟨B, 0, none⟩) hB).trans hc
  have hl : B < W.heap.size := Nat.lt_of_lt_of_le hB hb.size
  show Calls Tryd.prog 173 #[.agg #[.int .i64 x.f0, .string x.f1, .slice A2 x.f2.length c2, .bool x.f3, .int .i64 x.f4], .pointer (some ⟨B, 0, none⟩)] W _
  have HB := Aside0.mk hb
  have HQ := Lib.hid (fun W' (hb' : Below W.heap.size W W') => contains_calls A2 c2 _ x.f2 id rfl W' (Kd.C_below g2 hb') l2)
  obtain ⟨r, hr⟩ : ∃ r, x.f2.contains id = r := ⟨_, rfl⟩
  show Calls Tryd.prog _ _ _ fun e w' => e = .returned (.bool (x.f2.contains id)) ∧ _
  rw [hr] at HQ ⊢
  clear hb hc hK g2 hr
  go_enter Tryd.func173, Tryd.ntmps173
  go_wp2_with (go_at_call 163; refine (HQ.out _ (below_alloc (Below.refl _ _) _)).mono ?_; rintro e w' ⟨rfl, hd⟩)
  go_ret
  exact ⟨rfl, below_then HB.out HB.out.size (below_then (below_alloc (Below.refl _ _) _) (by simp) hd.below)⟩
theorem str_contains_calls (A : Option Addr) (c n : Nat) (l : List ByteArray) (a : ByteArray) (hn : l.length = n) (hb : l.length < 1000) (w : World) (h : Kd.string.C w A l.length l) (hc : n ≤ c) :
    Calls Tryd.prog 70 #[.slice A n c, .string a] w fun e w' => e = .returned (.bool (l.any (fun w => a.toList == w.toList))) ∧ Below w.heap.size w w' := by
  subst hn
  exact (slices_Contains_string_string.calls (l.length + 1) A c l a _ w h hc (str_contains l a _ (by omega) (by omega))).mono fun e w' h => ⟨h.1, by first | exact h.2 | exact h.2.below⟩
set_option maxHeartbeats 1000000 in
theorem kind97_calls (k : Int) (w : World) : Calls Tryd.prog 97 #[.int .i64 k] w fun e w' => e = .returned (.bool (decide (1 ≤ k) && decide (k ≤ 5))) ∧ Below w.heap.size w w' := by
  by_cases h1 : 1 ≤ k
  · have hd1 : decide (1 ≤ k) = true := decide_eq_true h1
    obtain ⟨b, hb⟩ : ∃ b, decide (k ≤ 5) = b := ⟨_, rfl⟩
    rw [hd1, hb, Bool.true_and]
    clear h1
    go_enter Tryd.func97, Tryd.ntmps97
    go_wp2
    go_ret
    exact ⟨rfl, Below.refl _ _⟩
  · have hd1 : decide (1 ≤ k) = false := decide_eq_false h1
    rw [hd1, Bool.false_and]
    clear h1
    go_enter Tryd.func97, Tryd.ntmps97
    go_wp2
    all_goals
      go_ret
      exact ⟨rfl, Below.refl _ _⟩
set_option maxHeartbeats 1000000 in
theorem pred96 (w : World) : Pred1 (Value.int .i64) 96 #[] (fun k => !(decide (1 ≤ k) && decide (k ≤ 5))) w := by
  intro W x hb
  have HB := Aside0.mk hb
  have HQ := Lib.hid (fun W => kind97_calls x W)
  show Calls Tryd.prog 96 #[.int .i64 x] W fun e w' => e = .returned (.bool (!(decide (1 ≤ x) && decide (x ≤ 5)))) ∧ _
  obtain ⟨r, hr⟩ : ∃ r, (decide (1 ≤ x) && decide (x ≤ 5)) = r := ⟨_, rfl⟩
  rw [hr] at HQ ⊢
  clear hb hr
  go_enter Tryd.func96, Tryd.ntmps96
  go_wp2_with (go_at_call 97; refine (HQ.out _).mono ?_; rintro e w' ⟨rfl, hd⟩)
  go_ret
  exact ⟨rfl, below_then HB.out HB.out.size hd⟩
set_option maxHeartbeats 1000000 in
theorem pred93 (w : World) (hG : GL w) : Pred1 Value.string 93 #[] (fun n => !(nameB n)) w := by
  intro W x hb
  have HB := Aside0.mk hb
  have HQ := Lib.hid (nameCalls x W (hG.of_below hb))
  show Calls Tryd.prog 93 #[.string x] W _
  clear hb
  go_enter Tryd.func93, Tryd.ntmps93
  go_wp2_with (go_at_call 33; refine HQ.out.mono ?_; rintro e w' ⟨rfl, hd⟩)
  go_ret
  exact ⟨rfl, below_then HB.out HB.out.size hd⟩
set_option maxHeartbeats 1000000 in
theorem index_calls142 (n : ByteArray) (sh : Bool) (pa : Addr) (xs : List S98) (A : Option Addr) (c : Nat) (w : World) (hp : w.cell? ⟨pa.block, pa.off + 3, none⟩ = some (.slice A xs.length c)) (hC : k98.C w A xs.length xs) :
    Calls Tryd.prog 142 #[.pointer (some pa), .string n, .bool sh] w fun e w' => e = .returned (.int .i64 (idxL (xNamed n sh) xs 0)) ∧ Below w.heap.size w w' := by
  obtain ⟨w0, hw0⟩ : ∃ w0, w0 = (w.alloc (.cells #[.string n] 9)).alloc (.cells #[.bool sh] 4) := ⟨_, rfl⟩
  have hb0 : Below w.heap.size w w0 := by rw [hw0]; exact below_alloc (below_alloc (Below.refl _ _) _) _
  have x0 : w0.heap[w.heap.size]? = some (.cells #[.string n] 9 (0, 0)) := by rw [hw0]; exact blk_alloc (heap_alloc_new w _) _
  have x1 : w0.heap[w.heap.size + 1]? = some (.cells #[.bool sh] 4 (0, 0)) := by
    have := heap_alloc_new (w.alloc (.cells #[.string n] 9)) (.cells #[.bool sh] 4)
    rw [hw0]
    simpa using this
  have HQ := Lib.hid (idx98 169 #[.pointer (some ⟨w.heap.size, 0, none⟩), .pointer (some ⟨w.heap.size + 1, 0, none⟩)] enters169 (xNamed n sh) A c xs w0 (Kd.C_below hC hb0) (pred169 n sh _ _ w0 (lt_of_block x0) (lt_of_block x1) (blk_cell x0 rfl) (blk_cell x1 rfl)))
  have HB0 := Aside0.mk hb0
  have hmf : ∀ (fn : Fn) (first cap : Array Value) (w : World), (Instr.makeFunc fn first cap).run Tryd.prog w = .ok (.func fn first cap) w := fun _ _ _ _ => rfl
  have hp0 := pw_cell_below hb0 hp
  rw [hw0] at HQ hp0
  have HW0 := Lib.hid hw0
  clear hb0 x0 x1 hC hw0 hp
  go_enter Tryd.func142, Tryd.ntmps142
  go_wp2_with fail
  refine HQ.out.mono ?_
  rw [← HW0.out]
  rintro e w1 ⟨rfl, hb1⟩
  have HB1 := Aside0.mk (below_then HB0.out HB0.out.size hb1)
  clear hb1
  go_wp2
  go_ret
  exact ⟨rfl, HB1.out⟩
set_option maxHeartbeats 1000000 in
theorem column_calls143 (n : ByteArray) (sh : Bool) (pa : Addr) (xs : List S75) (A : Option Addr) (c : Nat) (w : World) (hp : w.cell? ⟨pa.block, pa.off + 2, none⟩ = some (.slice A xs.length c)) (hC : k75.C w A xs.length xs) :
    Calls Tryd.prog 143 #[.pointer (some pa), .string n, .bool sh] w fun e w' => e = .returned (.int .i64 (idxL (cNamed n sh) xs 0)) ∧ Below w.heap.size w w' := by
  obtain ⟨w0, hw0⟩ : ∃ w0, w0 = (w.alloc (.cells #[.string n] 9)).alloc (.cells #[.bool sh] 4) := ⟨_, rfl⟩
  have hb0 : Below w.heap.size w w0 := by rw [hw0]; exact below_alloc (below_alloc (Below.refl _ _) _) _
  have x0 : w0.heap[w.heap.size]? = some (.cells #[.string n] 9 (0, 0)) := by rw [hw0]; exact blk_alloc (heap_alloc_new w _) _
  have x1 : w0.heap[w.heap.size + 1]? = some (.cells #[.bool sh] 4 (0, 0)) := by
    have := heap_alloc_new (w.alloc (.cells #[.string n] 9)) (.cells #[.bool sh] 4)
    rw [hw0]
    simpa using this
  have HQ := Lib.hid (idx75 170 #[.pointer (some ⟨w.heap.size, 0, none⟩), .pointer (some ⟨w.heap.size + 1, 0, none⟩)] enters170 (cNamed n sh) A c xs w0 (Kd.C_below hC hb0) (pred170 n sh _ _ w0 (lt_of_block x0) (lt_of_block x1) (blk_cell x0 rfl) (blk_cell x1 rfl)))
  have HB0 := Aside0.mk hb0
  have hmf : ∀ (fn : Fn) (first cap : Array Value) (w : World), (Instr.makeFunc fn first cap).run Tryd.prog w = .ok (.func fn first cap) w := fun _ _ _ _ => rfl
  have hp0 := pw_cell_below hb0 hp
  rw [hw0] at HQ hp0
  have HW0 := Lib.hid hw0
  clear hb0 x0 x1 hC hw0 hp
  go_enter Tryd.func143, Tryd.ntmps143
  go_wp2_with fail
  refine HQ.out.mono ?_
  rw [← HW0.out]
  rintro e w1 ⟨rfl, hb1⟩
  have HB1 := Aside0.mk (below_then HB0.out HB0.out.size hb1)
  clear hb1
  go_wp2
  go_ret
  exact ⟨rfl, HB1.out⟩
theorem used_any (id : Int) (xs : List S98) : (xs.any fun x => x.f2.contains id) = usedB id xs := by
  unfold usedB
  congr 1
  funext x
  induction x.f2 with
  | nil => rfl
  | cons y l ih => rw [List.contains_cons, List.any_cons, ih]; congr 1; (by_cases h : id = y; (rw [h]; simp); (rw [decide_eq_false (fun e => h e.symm)]; simpa using h))
set_option maxHeartbeats 1000000 in
theorem leaned_calls (id : Int) (pa : Addr) (xs : List S98) (A : Option Addr) (c : Nat) (w : World) (hp : w.cell? ⟨pa.block, pa.off + 3, none⟩ = some (.slice A xs.length c)) (hC : k98.C w A xs.length xs) :
    Calls Tryd.prog 145 #[.pointer (some pa), .int .i64 id] w fun e w' => e = .returned (.bool (usedB id xs)) ∧ Below w.heap.size w w' := by
  have hb0 := below_alloc (Below.refl _ w) (.cells #[.int .i64 id] 3)
  have x0 := heap_alloc_new w (.cells #[.int .i64 id] 3)
  have HQ := Lib.hid (any172 173 #[.pointer (some ⟨w.heap.size, 0, none⟩)] enters173 (fun x => x.f2.contains id) A c xs _ (Kd.C_below hC hb0) (pred173 id _ _ (lt_of_block x0) (blk_cell x0 rfl)))
  rw [used_any] at HQ
  have hp0 := pw_cell_below hb0 hp
  have HB0 := Aside0.mk hb0
  have hmf : ∀ (fn : Fn) (first cap : Array Value) (w : World), (Instr.makeFunc fn first cap).run Tryd.prog w = .ok (.func fn first cap) w := fun _ _ _ _ => rfl
  clear hb0 x0 hC hp
  go_enter Tryd.func145, Tryd.ntmps145
  go_wp2_with fail
  refine HQ.out.mono ?_
  rintro e w1 ⟨rfl, hb1⟩
  have HB1 := Aside0.mk (below_then HB0.out HB0.out.size hb1)
  clear hb1
  go_wp2
  go_ret
  exact ⟨rfl, HB1.out⟩
set_option maxRecDepth 100000 in
set_option maxHeartbeats 4000000 in
theorem twice98_calls (l : List ByteArray) (hl : l.length < 1000) (A : Option Addr) (c : Nat) (w : World) (hc : l.length ≤ c) (g : Kd.string.C w A l.length l) : Calls Tryd.prog 98 #[.slice A l.length c] w fun e w' => e = .returned (.bool (twiceB [] l)) ∧ Below w.heap.size w w' := by
  have HA := Lib.hid g
  have hbig := g.2.1
  have HT := Lib.hid (show twiceB [] l = twiceB (l.take 0) (l.drop 0) by simp)
  obtain ⟨R, hR⟩ : ∃ R, twiceB [] l = R := ⟨_, rfl⟩
  rw [hR]
  rw [hR] at HT
  clear g hR
  go_enter Tryd.func98, Tryd.ntmps98
  go_wp2
  go_loopg [3, 4, 7] l.length (fun gg _ _ s7 wr => ∃ kk : Nat, kk ≤ l.length ∧ l.length - kk ≤ gg ∧ s7 = .int .i64 kk ∧ Aside0 (Below w.heap.size w wr) ∧ Aside0 (R = twiceB (l.take kk) (l.drop kk)))
  case atStart => exact ⟨0, Nat.zero_le _, by omega, rfl, ⟨Below.refl _ w⟩, ⟨HT.out⟩⟩
  case round =>
    obtain ⟨kk, hkk, hg, rfl, BW, hI⟩ := hrel
    by_cases hlt : kk < l.length
    · have hltz : (kk : Int) < (l.length : Int) := by omega
      have hd : l.drop kk = l[kk] :: l.drop (kk + 1) := List.drop_eq_getElem_cons hlt
      have hC := Kd.C_below HA.out BW.out
      obtain ⟨ad, eA, h0⟩ := at_str hC kk hlt
      have hCt := Kd.C_take hC (m := kk) (by omega)
      have ht : (l.take kk).length = kk := by rw [List.length_take]; omega
      have HQ := Lib.hid (str_contains_calls A c kk (l.take kk) l[kk] ht (by omega) wr hCt (by omega))
      have hI2 := hI.out
      rw [hd] at hI2
      have hI3 : R = (((l.take kk).any fun w => l[kk].toList == w.toList) || twiceB (l.take (kk + 1)) (l.drop (kk + 1))) := by
        rw [hI2, List.take_succ_eq_append_getElem hlt]
        rfl
      obtain ⟨a, ha⟩ : ∃ a, l[kk] = a := ⟨_, rfl⟩
      rw [ha] at h0 HQ hI3
      cases eA
      obtain ⟨q, hq⟩ : ∃ q, ((l.take kk).any fun w => a.toList == w.toList) = q := ⟨_, rfl⟩
      rw [hq] at HQ hI3
      have HI3 := Aside0.mk hI3
      clear hI3 hI2 hI hd hC hCt ht ha hq
      cases q with
      | true =>
        have HR := Lib.hid (show R = true from HI3.out)
        go_wp2_with fail
        refine HQ.out.mono ?_
        rintro e w' ⟨rfl, hb'⟩
        go_wp2
        go_ret
        exact ⟨by rw [HR.out]; rfl, below_then BW.out BW.out.size hb'⟩
      | false =>
        go_wp2_with fail
        refine HQ.out.mono ?_
        rintro e w' ⟨rfl, hb'⟩
        go_wp2
        go_roundg (l.length - (kk + 1))
        case measure => omega
        case rel => exact ⟨kk + 1, by omega, by omega, by go_num, ⟨below_then BW.out BW.out.size hb'⟩, ⟨by rw [HI3.out, Bool.false_or]⟩⟩
    · have hltz : ¬ (kk : Int) < (l.length : Int) := by omega
      have hR : R = false := by rw [hI.out, List.drop_eq_nil_of_le (by omega)]; rfl
      have HR := Lib.hid hR
      clear hR hI
      go_wp2
      go_ret
      exact ⟨by rw [HR.out]; rfl, BW.out⟩
end Go.Proofs.YtjgomlcdmpcoaaaDoor.H
namespace Go.Proofs.YtjgomlcdmpcoaaaDoor.H
open Go.RowKit Go.Proofs.YtjgomlcdmpcoaaaDoorW.PrintWords Go.Proofs.YtjgomlcdmpcoaaaDoorW.PrintLast Go.Proofs.YtjgomlcdmpcoaaaDoorW.PrintMore
open Go.Proofs.YtjgomlcdmpcoaaaDoor.D Go.Proofs.YtjgomlcdmpcoaaaDoor
set_option linter.unusedVariables false
set_option linter.unusedSimpArgs false
set_option maxRecDepth 100000 in
set_option maxHeartbeats 4000000 in
theorem clone113 (xs : List S75) (A : Option Addr) (c : Nat) (w : World) (hn : xs.length ≤ 1000) (hC : (k75).C w A xs.length xs) :
    Calls Tryd.prog 113 #[.slice A xs.length c] w fun e w' => ∃ v, e = .returned v ∧ (k75).R 75 w' w.heap.size (fun _ => True) v xs ∧ Below w.heap.size w w' := by
  have HC := Aside0.mk hC
  have hq : ∀ (W : World) (a : Option Addr) (n c n' c' : Nat), (binOp .eql 67 (.slice a n c) (.slice none n' c')).run Tryd.prog W = .ok (.bool a.isNone) W := fun W a n c n' c' => Lib.run_eql_slice_nil W _ _ a n c n' c' Tryd.underlying67
  rcases A with _ | ad
  · have h0 : xs = [] := by
      rcases xs with _ | ⟨x, l⟩
      · rfl
      · obtain ⟨ad, e, -⟩ := hC.2.2 (by simp)
        cases e
    subst h0
    clear hC
    go_enter Tryd.func113, Tryd.ntmps113
    go_wp2
    go_ret
    exact ⟨_, rfl, Kd.R_nil _ _ _ _ _, Below.refl _ _⟩
  · clear hC
    go_enter Tryd.func113, Tryd.ntmps113
    go_wp2_with (first
      | ((with_reducible refine gate_dst (N := 5) rfl ?_); refine Kd.R_lit (k75) (w0 := w) w.heap.size 75 ?hg (N := 5) ?hd (xs := ([] : List S75)) (inner := []) (ok := fun _ => True) (okp := fun _ => True) ?hr (Reps.none _ _) (fun _ hk => hk) trivial (Below.refl _ _) (by simp) (by simp) ?_; (case hd => rfl); (case hg => rfl); (case hr => first | (go_simp; done) | (go_simp; rfl)); intro v1 w1 ho1 hb1 hg1 hn1; have HV := Aside0.mk ho1; have HB1 := Aside0.mk hb1; clear ho1 hb1 hg1 hn1)
      | ((with_reducible refine gate_builtin (b := .append) (xs := #[.tmp 5, .tmp 6]) rfl ?_); at_builtin; refine Kd.R_append_rows (k75) (w0 := w) w.heap.size rfl (.tmp 5) (.tmp 6) 67 75 (.agg #[(.int .i64 0), (.string ⟨#[]⟩), (.int .i64 0), (.int .i64 0), (.int .i64 0), (.int .i64 0), (.int .i64 0), (.int .u64 0), (.string ⟨#[]⟩)]) 88 rfl Tryd.underlying67 info75 rfl (by decide) (by omega) v1 [] xs _ _ _ (fun _ => True) (fun _ => False) rfl rfl HV.out (Kd.C_below HC.out HB1.out) (fun _ _ h => h) (fun _ h => h.elim) (fun _ _ => trivial) HB1.out HB1.out.size (by simp only [List.length_nil]; omega) ?_; intro v2 w2 ho2 hb2 hg2 hat2; rw [List.nil_append] at ho2; have HF := Aside0.mk ho2; have HB2 := Aside0.mk hb2; clear ho2 hb2 hg2 hat2))
    go_ret
    exact ⟨_, rfl, HF.out, HB2.out⟩
set_option maxRecDepth 100000 in
set_option maxHeartbeats 4000000 in
theorem clone154 (xs : List Int) (A : Option Addr) (c : Nat) (w : World) (hn : xs.length ≤ 1000) (hC : (Kd.int .i64).C w A xs.length xs) :
    Calls Tryd.prog 154 #[.slice A xs.length c] w fun e w' => ∃ v, e = .returned v ∧ (Kd.int .i64).R 3 w' w.heap.size (fun _ => True) v xs ∧ Below w.heap.size w w' := by
  have HC := Aside0.mk hC
  have hq : ∀ (W : World) (a : Option Addr) (n c n' c' : Nat), (binOp .eql 40 (.slice a n c) (.slice none n' c')).run Tryd.prog W = .ok (.bool a.isNone) W := fun W a n c n' c' => Lib.run_eql_slice_nil W _ _ a n c n' c' Tryd.underlying40
  rcases A with _ | ad
  · have h0 : xs = [] := by
      rcases xs with _ | ⟨x, l⟩
      · rfl
      · obtain ⟨ad, e, -⟩ := hC.2.2 (by simp)
        cases e
    subst h0
    clear hC
    go_enter Tryd.func154, Tryd.ntmps154
    go_wp2
    go_ret
    exact ⟨_, rfl, Kd.R_nil _ _ _ _ _, Below.refl _ _⟩
  · clear hC
    go_enter Tryd.func154, Tryd.ntmps154
    go_wp2_with (first
      | ((with_reducible refine gate_dst (N := 5) rfl ?_); refine Kd.R_lit (Kd.int .i64) (w0 := w) w.heap.size 3 ?hg (N := 5) ?hd (xs := ([] : List Int)) (inner := []) (ok := fun _ => True) (okp := fun _ => True) ?hr (Reps.none _ _) (fun _ hk => hk) trivial (Below.refl _ _) (by simp) (by simp) ?_; (case hd => rfl); (case hg => rfl); (case hr => first | (go_simp; done) | (go_simp; rfl)); intro v1 w1 ho1 hb1 hg1 hn1; have HV := Aside0.mk ho1; have HB1 := Aside0.mk hb1; clear ho1 hb1 hg1 hn1)
      | ((with_reducible refine gate_builtin (b := .append) (xs := #[.tmp 5, .tmp 6]) rfl ?_); at_builtin; refine Kd.R_append_rows (Kd.int .i64) (w0 := w) w.heap.size rfl (.tmp 5) (.tmp 6) 40 3 (.int .i64 0) 8 rfl Tryd.underlying40 info3 rfl (by decide) (by omega) v1 [] xs _ _ _ (fun _ => True) (fun _ => False) rfl rfl HV.out (Kd.C_below HC.out HB1.out) (fun _ _ h => h) (fun _ h => h.elim) (fun _ _ => trivial) HB1.out HB1.out.size (by simp only [List.length_nil]; omega) ?_; intro v2 w2 ho2 hb2 hg2 hat2; rw [List.nil_append] at ho2; have HF := Aside0.mk ho2; have HB2 := Aside0.mk hb2; clear ho2 hb2 hg2 hat2))
    go_ret
    exact ⟨_, rfl, HF.out, HB2.out⟩
set_option maxRecDepth 100000 in
set_option maxHeartbeats 4000000 in
theorem clone152 (xs : List (List Value)) (A : Option Addr) (c : Nat) (w : World) (hn : xs.length ≤ 1000) (hC : (Kd.raw 5).C w A xs.length xs) :
    Calls Tryd.prog 152 #[.slice A xs.length c] w fun e w' => ∃ v, e = .returned v ∧ (Kd.raw 5).R 70 w' w.heap.size (fun _ => True) v xs ∧ Below w.heap.size w w' := by
  have HC := Aside0.mk hC
  have hq : ∀ (W : World) (a : Option Addr) (n c n' c' : Nat), (binOp .eql 26 (.slice a n c) (.slice none n' c')).run Tryd.prog W = .ok (.bool a.isNone) W := fun W a n c n' c' => Lib.run_eql_slice_nil W _ _ a n c n' c' Tryd.underlying26
  rcases A with _ | ad
  · have h0 : xs = [] := by
      rcases xs with _ | ⟨x, l⟩
      · rfl
      · obtain ⟨ad, e, -⟩ := hC.2.2 (by simp)
        cases e
    subst h0
    clear hC
    go_enter Tryd.func152, Tryd.ntmps152
    go_wp2
    go_ret
    exact ⟨_, rfl, Kd.R_nil _ _ _ _ _, Below.refl _ _⟩
  · clear hC
    go_enter Tryd.func152, Tryd.ntmps152
    go_wp2_with (first
      | ((with_reducible refine gate_dst (N := 5) rfl ?_); refine Kd.R_lit (Kd.raw 5) (w0 := w) w.heap.size 70 ?hg (N := 5) ?hd (xs := ([] : List (List Value))) (inner := []) (ok := fun _ => True) (okp := fun _ => True) ?hr (Reps.none _ _) (fun _ hk => hk) trivial (Below.refl _ _) (by simp) (by simp) ?_; (case hd => rfl); (case hg => rfl); (case hr => first | (go_simp; done) | (go_simp; rfl)); intro v1 w1 ho1 hb1 hg1 hn1; have HV := Aside0.mk ho1; have HB1 := Aside0.mk hb1; clear ho1 hb1 hg1 hn1)
      | ((with_reducible refine gate_builtin (b := .append) (xs := #[.tmp 5, .tmp 6]) rfl ?_); at_builtin; refine Kd.R_append_rows (Kd.raw 5) (w0 := w) w.heap.size rfl (.tmp 5) (.tmp 6) 26 70 (.agg #[(.int .i64 0), (.string ⟨#[]⟩), (.slice none 0 0), (.slice none 0 0), (.int .i64 0)]) 80 rfl Tryd.underlying26 info70 rfl (by decide) (by omega) v1 [] xs _ _ _ (fun _ => True) (fun _ => False) rfl rfl HV.out (Kd.C_below HC.out HB1.out) (fun _ _ h => h) (fun _ h => h.elim) (fun _ _ => trivial) HB1.out HB1.out.size (by simp only [List.length_nil]; omega) ?_; intro v2 w2 ho2 hb2 hg2 hat2; rw [List.nil_append] at ho2; have HF := Aside0.mk ho2; have HB2 := Aside0.mk hb2; clear ho2 hb2 hg2 hat2))
    go_ret
    exact ⟨_, rfl, HF.out, HB2.out⟩
set_option maxRecDepth 100000 in
set_option maxHeartbeats 4000000 in
theorem clone153 (xs : List (List Value)) (A : Option Addr) (c : Nat) (w : World) (hn : xs.length ≤ 1000) (hC : (Kd.raw 5).C w A xs.length xs) :
    Calls Tryd.prog 153 #[.slice A xs.length c] w fun e w' => ∃ v, e = .returned v ∧ (Kd.raw 5).R 98 w' w.heap.size (fun _ => True) v xs ∧ Below w.heap.size w w' := by
  have HC := Aside0.mk hC
  have hq : ∀ (W : World) (a : Option Addr) (n c n' c' : Nat), (binOp .eql 68 (.slice a n c) (.slice none n' c')).run Tryd.prog W = .ok (.bool a.isNone) W := fun W a n c n' c' => Lib.run_eql_slice_nil W _ _ a n c n' c' Tryd.underlying68
  rcases A with _ | ad
  · have h0 : xs = [] := by
      rcases xs with _ | ⟨x, l⟩
      · rfl
      · obtain ⟨ad, e, -⟩ := hC.2.2 (by simp)
        cases e
    subst h0
    clear hC
    go_enter Tryd.func153, Tryd.ntmps153
    go_wp2
    go_ret
    exact ⟨_, rfl, Kd.R_nil _ _ _ _ _, Below.refl _ _⟩
  · clear hC
    go_enter Tryd.func153, Tryd.ntmps153
    go_wp2_with (first
      | ((with_reducible refine gate_dst (N := 5) rfl ?_); refine Kd.R_lit (Kd.raw 5) (w0 := w) w.heap.size 98 ?hg (N := 5) ?hd (xs := ([] : List (List Value))) (inner := []) (ok := fun _ => True) (okp := fun _ => True) ?hr (Reps.none _ _) (fun _ hk => hk) trivial (Below.refl _ _) (by simp) (by simp) ?_; (case hd => rfl); (case hg => rfl); (case hr => first | (go_simp; done) | (go_simp; rfl)); intro v1 w1 ho1 hb1 hg1 hn1; have HV := Aside0.mk ho1; have HB1 := Aside0.mk hb1; clear ho1 hb1 hg1 hn1)
      | ((with_reducible refine gate_builtin (b := .append) (xs := #[.tmp 5, .tmp 6]) rfl ?_); at_builtin; refine Kd.R_append_rows (Kd.raw 5) (w0 := w) w.heap.size rfl (.tmp 5) (.tmp 6) 68 98 (.agg #[(.int .i64 0), (.string ⟨#[]⟩), (.slice none 0 0), (.bool false), (.int .i64 0)]) 64 rfl Tryd.underlying68 info98 rfl (by decide) (by omega) v1 [] xs _ _ _ (fun _ => True) (fun _ => False) rfl rfl HV.out (Kd.C_below HC.out HB1.out) (fun _ _ h => h) (fun _ h => h.elim) (fun _ _ => trivial) HB1.out HB1.out.size (by simp only [List.length_nil]; omega) ?_; intro v2 w2 ho2 hb2 hg2 hat2; rw [List.nil_append] at ho2; have HF := Aside0.mk ho2; have HB2 := Aside0.mk hb2; clear ho2 hb2 hg2 hat2))
    go_ret
    exact ⟨_, rfl, HF.out, HB2.out⟩
end Go.Proofs.YtjgomlcdmpcoaaaDoor.H
namespace Go.Proofs.YtjgomlcdmpcoaaaDoor.H
open Go.RowKit Go.Proofs.YtjgomlcdmpcoaaaDoorW.PrintWords Go.Proofs.YtjgomlcdmpcoaaaDoorW.PrintLast Go.Proofs.YtjgomlcdmpcoaaaDoorW.PrintMore
open Go.Proofs.YtjgomlcdmpcoaaaDoor.D Go.Proofs.YtjgomlcdmpcoaaaDoor
set_option linter.unusedVariables false
set_option linter.unusedSimpArgs false
theorem take5 {l : List Value} {k : Nat} {a b c d e : Value} (ha : l[k]? = some a) (hb : l[k + 1]? = some b) (hc : l[k + 2]? = some c) (hd : l[k + 3]? = some d) (he : l[k + 4]? = some e) : (l.drop k).take 5 = [a, b, c, d, e] := by
  apply List.ext_getElem?
  intro i
  rw [List.getElem?_take, List.getElem?_drop]
  match i with
  | 0 => simpa using ha
  | 1 => simpa using hb
  | 2 => simpa using hc
  | 3 => simpa using hd
  | 4 => simpa using he
  | n + 5 => rw [if_neg (by omega)]; simp
theorem R_cells {α : Type} {d : Kd α} {e : TypeId} {W : World} {base g cap : Nat} {ok : Nat → Prop} {cs : Array Value} {xs : List α} (hg : W.heap[g]? = some (.cells cs e (0, 0))) (hb : base ≤ g) (hok : ok g) (hn : xs.length ≤ cap) (hm : cap ≤ maxLen) (hs : cs.size = cap * d.sz)
    (hrow : ∀ j (h : j < xs.length), d.M W base (fun k => ok k ∧ some k ≠ (Value.slice (some ⟨g, 0, none⟩) xs.length cap).ownBlock) xs[j] ((cs.toList.drop (j * d.sz)).take d.sz)) :
    d.R e W base ok (.slice (some ⟨g, 0, none⟩) xs.length cap) xs := by
  have hle : xs.length * d.sz ≤ cs.toList.length := by
    have h1 : xs.length * d.sz ≤ cap * d.sz := Nat.mul_le_mul_right _ hn
    have h2 : cs.toList.length = cs.size := Array.length_toList
    omega
  have hlen : (cs.toList.take (xs.length * d.sz)).length = xs.length * d.sz := by rw [List.length_take]; omega
  refine ⟨fun k hk => ?_, cs.toList.take (xs.length * d.sz), ⟨hlen, .inr ⟨g, cap, cs, rfl, hb, hg, hn, hm, hs, rfl⟩⟩, hlen, fun j p hj => ?_⟩
  · simp [Value.ownBlock] at hk
    rw [← hk]; exact hok
  · have hjl : j < xs.length := (List.getElem?_eq_some_iff.1 hj).1
    obtain rfl : xs[j] = p := (List.getElem?_eq_some_iff.1 hj).2
    have := hrow j hjl
    have h1 : j * d.sz + d.sz ≤ xs.length * d.sz := by rw [← Nat.succ_mul]; exact Nat.mul_le_mul_right _ hjl
    rw [List.drop_take, List.take_take, Nat.min_eq_left (by omega)]
    exact this
structure IdxS (w W : World) (B gi cap : Nat) (xs : List S98) (jj : Nat) : Prop where
  base : B ≤ gi
  lw : w.heap.size ≤ B
  room : xs.length ≤ cap ∧ cap ≤ maxLen
  blk : ∃ cs, W.heap[gi]? = some (.cells cs 98 (0, 0)) ∧ cs.size = cap * 5 ∧ ∀ j (h : j < xs.length), cs[j * 5]? = some (.int .i64 xs[j].f0) ∧ cs[j * 5 + 1]? = some (.string xs[j].f1) ∧ cs[j * 5 + 3]? = some (.bool xs[j].f3) ∧ cs[j * 5 + 4]? = some (.int .i64 xs[j].f4) ∧
    ∃ cv, cs[j * 5 + 2]? = some cv ∧ (j < jj → (Kd.int .i64).R 3 W B (fun _ => True) cv xs[j].f2) ∧ (jj ≤ j → ∃ A c, cv = .slice A xs[j].f2.length c ∧ xs[j].f2.length ≤ c ∧ (Kd.int .i64).C w A xs[j].f2.length xs[j].f2)
theorem IdxS.step {w W W' : World} {B gi cap jj : Nat} {xs : List S98} (h : IdxS w W B gi cap xs jj) (hb : Below W.heap.size W W') : IdxS w W' B gi cap xs jj := by
  obtain ⟨cs, hg, hs, hr⟩ := h.blk
  refine ⟨h.base, h.lw, h.room, cs, blk_below hg hb, hs, fun j hj => ?_⟩
  obtain ⟨h0, h1, h3, h4, cv, h2, hm, hc⟩ := hr j hj
  exact ⟨h0, h1, h3, h4, cv, h2, fun h => Kd.R_below (hm h) hb, hc⟩
theorem IdxS.put {w W : World} {B gi cap jj : Nat} {xs : List S98} {v : Value} (h : IdxS w W B gi cap xs jj) (hj : jj < xs.length) (hR : (Kd.int .i64).R 3 W B (fun _ => True) v xs[jj].f2) : IdxS w (W.setCell ⟨gi, jj * 5 + 2, none⟩ v) B gi cap xs (jj + 1) := by
  obtain ⟨cs, hg, hs, hr⟩ := h.blk
  refine ⟨h.base, h.lw, h.room, _, blk_set hg _ v, by rw [Array.size_setIfInBounds]; exact hs, fun j hjl => ?_⟩
  obtain ⟨h0, h1, h3, h4, cv, h2, hm, hc⟩ := hr j hjl
  rw [Array.getElem?_setIfInBounds_ne (by omega), Array.getElem?_setIfInBounds_ne (by omega), Array.getElem?_setIfInBounds_ne (by omega), Array.getElem?_setIfInBounds_ne (by omega)]
  refine ⟨h0, h1, h3, h4, ?_⟩
  by_cases hjj : j = jj
  · subst hjj
    refine ⟨v, ?_, fun _ => Kd.R_set hR hg (by decide) _ _, fun h => by omega⟩
    rw [Array.getElem?_setIfInBounds]
    have : j * 5 + 2 < cs.size := (Array.getElem?_eq_some_iff.1 h2).1
    simp [this]
  · refine ⟨cv, ?_, fun h => Kd.R_set (hm (by omega)) hg (by decide) _ _, fun h => hc (by omega)⟩
    rw [Array.getElem?_setIfInBounds_ne (by omega)]
    exact h2
theorem IdxS.all {w W : World} {B gi cap : Nat} {xs : List S98} (h : IdxS w W B gi cap xs xs.length) : k98.R 98 W B (fun _ => True) (.slice (some ⟨gi, 0, none⟩) xs.length cap) xs := by
  obtain ⟨cs, hg, hs, hr⟩ := h.blk
  refine R_cells (d := k98) hg h.base trivial h.room.1 h.room.2 hs (fun j hj => ?_)
  obtain ⟨h0, h1, h3, h4, cv, h2, hm, -⟩ := hr j hj
  have e : (cs.toList.drop (j * k98.sz)).take k98.sz = [.int .i64 xs[j].f0, .string xs[j].f1, cv, .bool xs[j].f3, .int .i64 xs[j].f4] := take5 (k := j * 5) (by simpa using h0) (by simpa using h1) (by simpa using h2) (by simpa using h3) (by simpa using h4)
  rw [e]
  have hcv := hm hj
  refine k98_mkM W B _ xs[j] (Kd.R_mono (Kd.R_bound hcv) (fun k hk => ⟨trivial, fun e => ?_⟩))
  simp [Value.ownBlock] at e
  obtain ⟨-, -, -, q, hq, cells, hk⟩ := hk
  rw [e, hg] at hk
  injection hk with hk
  injection hk with _ ht _
  have hq' : q ∈ ([3] : List Nat) := hq
  rw [List.mem_singleton.1 hq'] at ht
  exact absurd ht (by decide)
theorem IdxS.far {w W : World} {B gi cap jj g j : Nat} {xs : List S98} {cells : Array Value} (h : IdxS w W B gi cap xs jj) (hg : W.heap[g]? = some (.cells cells 70 (0, 0))) (u : Value) : IdxS w (W.setCell ⟨g, j, none⟩ u) B gi cap xs jj := by
  obtain ⟨cs, hgi, hs, hr⟩ := h.blk
  refine ⟨h.base, h.lw, h.room, cs, blk_far hgi (p := ⟨g, j, none⟩) (blk_ne hgi hg (by decide)) u, hs, fun q hq => ?_⟩
  obtain ⟨h0, h1, h3, h4, cv, h2, hm, hc⟩ := hr q hq
  exact ⟨h0, h1, h3, h4, cv, h2, fun hl => Kd.R_set (hm hl) hg (by decide) _ _, hc⟩
theorem IdxS.see {w W : World} {B gi cap jj : Nat} {xs : List S98} (h : IdxS w W B gi cap xs jj) (hj : jj < xs.length) : ∃ A c, W.cell? ⟨gi, jj * 5 + 2, none⟩ = some (.slice A xs[jj].f2.length c) ∧ xs[jj].f2.length ≤ c ∧ (Kd.int .i64).C w A xs[jj].f2.length xs[jj].f2 ∧ W.frozen? ⟨gi, jj * 5 + 2, none⟩ = false ∧ gi < W.heap.size ∧ ∃ cells, W.heap[gi]? = some (.cells cells 98 (0, 0)) := by
  obtain ⟨cs, hgi, hs, hr⟩ := h.blk
  obtain ⟨-, -, -, -, cv, h2, -, hc⟩ := hr jj hj
  obtain ⟨A, c, rfl, hl, hC⟩ := hc (Nat.le_refl _)
  exact ⟨A, c, H.blk_cell hgi h2, hl, hC, blk_frozen hgi _, lt_of_block hgi, cs, hgi⟩
theorem IdxS.new {w W : World} {B B' cap gi : Nat} {xs : List S98} {rows : List (List Value)} (h : (Kd.raw 5).R 98 W B' (fun _ => True) (.slice (some ⟨gi, 0, none⟩) rows.length cap) rows) (hB : B ≤ B') (hw : w.heap.size ≤ B) (hl : rows.length = xs.length) (hK : ∀ (j : Nat) (x : S98) (c : List Value), xs[j]? = some x → rows[j]? = some c → k98.K w x c) :
    IdxS w W B gi cap xs 0 := by
  obtain ⟨inner, ho⟩ := Kd.R_own h
  rcases ho.2 with ⟨e, hn⟩ | ⟨g', cap', cur, e, hbb, hg, hle, hmx, hsz, -⟩
  · cases e
  · injection e with e1 e2 e3
    injection e1 with e1
    injection e1 with e1
    subst e1 e3
    refine ⟨Nat.le_trans hB hbb, hw, ⟨by rw [← hl]; exact hle, hmx⟩, cur, hg, hsz, fun j hj => ?_⟩
    have hjr : j < rows.length := by omega
    obtain ⟨c, h1, h2, h3, -⟩ := Kd.R_elem h [] (j : Int) (by omega) (by omega)
    rw [show rows.getD (j : Int).toNat [] = rows[j] by simp [List.getD, hjr]] at h2
    have hc : c = rows[j] := h2.1
    have hk := hK j xs[j] rows[j] (List.getElem?_eq_getElem hj) (List.getElem?_eq_getElem hjr)
    rw [← hc] at hk
    obtain ⟨A2, c2, rfl, l2, g2⟩ := k98_open hk
    have q : ∀ (s : Nat) (u : Value), ([.int .i64 xs[j].f0, .string xs[j].f1, .slice A2 xs[j].f2.length c2, .bool xs[j].f3, .int .i64 xs[j].f4] : List Value)[s]? = some u → cur[j * 5 + s]? = some u := fun s u hu => by
      have := h3 s u hu
      rw [Go.Proofs.YtjgomlcdmpcoaaaDoorW.PrintWords.blk_cell hg] at this
      exact this
    exact ⟨q 0 _ rfl, q 1 _ rfl, q 3 _ rfl, q 4 _ rfl, _, q 2 _ rfl, fun h => by omega, fun _ => ⟨A2, c2, rfl, l2, g2⟩⟩
theorem I_none {v : Value} {W : World} {B B' : Nat} (h : (Kd.raw 5).R 98 W B (fun _ => True) v []) (hB : B' ≤ B) : k98.R 98 W B' (fun _ => True) v [] := by
  obtain ⟨h0, inner, ho, hr⟩ := h
  exact Kd.R_lower ⟨h0, inner, ho, hr.1, fun j p hj => by simp at hj⟩ hB
def CameC (w : World) (cv : Value) (xs : List S75) : Prop := ∃ A c, cv = .slice A xs.length c ∧ xs.length ≤ c ∧ k75.C w A xs.length xs
def CameI (w : World) (iv : Value) (xs : List S98) : Prop := ∃ A c, iv = .slice A xs.length c ∧ xs.length ≤ c ∧ k98.C w A xs.length xs
structure CopH (w W : World) (g cap : Nat) (ts : List S70) (i : Nat) (f : Nat → Nat) (P : Value → Value → Prop) : Prop where
  below : Below w.heap.size w W
  base : w.heap.size ≤ g
  room : ts.length ≤ cap ∧ cap ≤ maxLen
  blk : ∃ cs, W.heap[g]? = some (.cells cs 70 (0, 0)) ∧ cs.size = cap * 5 ∧ ∀ j (h : j < ts.length), cs[j * 5]? = some (.int .i64 ts[j].f0) ∧ cs[j * 5 + 1]? = some (.string ts[j].f1) ∧ cs[j * 5 + 4]? = some (.int .i64 ts[j].f4) ∧
    ∃ cv iv, cs[j * 5 + 2]? = some cv ∧ cs[j * 5 + 3]? = some iv ∧ (j < i → k75.R 75 W w.heap.size (fun k => f k = j) cv ts[j].f2 ∧ k98.R 98 W w.heap.size (fun k => f k = j) iv ts[j].f3) ∧ (j = i → P cv iv) ∧ (i < j → CameC w cv ts[j].f2 ∧ CameI w iv ts[j].f3)
section
variable {w W W' : World} {g cap i : Nat} {ts : List S70} {f f' : Nat → Nat} {P P' : Value → Value → Prop}
theorem CopH.step (h : CopH w W g cap ts i f P) (hb : Below W.heap.size W W') : CopH w W' g cap ts i f P := by
  obtain ⟨cs, hg, hs, hr⟩ := h.blk
  refine ⟨below_then h.below h.below.size hb, h.base, h.room, cs, blk_below hg hb, hs, fun j hj => ?_⟩
  obtain ⟨h0, h1, h4, cv, iv, h2, h3, hm, hp, hc⟩ := hr j hj
  exact ⟨h0, h1, h4, cv, iv, h2, h3, fun h => ⟨Kd.R_below (hm h).1 hb, Kd.R_below (hm h).2 hb⟩, hp, hc⟩
theorem CopH.put (h : CopH w W g cap ts i f P) (cv iv : Value) (hP : P' cv iv) : CopH w ((W.setCell ⟨g, i * 5 + 2, none⟩ cv).setCell ⟨g, i * 5 + 3, none⟩ iv) g cap ts i f P' := by
  obtain ⟨cs, hg, hs, hr⟩ := h.blk
  have hg1 := blk_set hg (i * 5 + 2) cv
  have hg2 := blk_set hg1 (i * 5 + 3) iv
  refine ⟨(h.below.setCell (p := ⟨g, i * 5 + 2, none⟩) h.base _).setCell (p := ⟨g, i * 5 + 3, none⟩) h.base _, h.base, h.room, _, hg2, by rw [Array.size_setIfInBounds, Array.size_setIfInBounds]; exact hs, fun j hj => ?_⟩
  obtain ⟨h0, h1, h4, cv0, iv0, h2, h3, hm, hp, hc⟩ := hr j hj
  have ne : ∀ q, q ≠ i * 5 + 2 → q ≠ i * 5 + 3 → ((cs.setIfInBounds (i * 5 + 2) cv).setIfInBounds (i * 5 + 3) iv)[q]? = cs[q]? := fun q a b => by
    rw [Array.getElem?_setIfInBounds_ne (Ne.symm b), Array.getElem?_setIfInBounds_ne (Ne.symm a)]
  rw [ne _ (by omega) (by omega), ne _ (by omega) (by omega), ne _ (by omega) (by omega)]
  refine ⟨h0, h1, h4, ?_⟩
  by_cases hji : j = i
  · subst hji
    have q2 : j * 5 + 2 < cs.size := (Array.getElem?_eq_some_iff.1 h2).1
    have q3 : j * 5 + 3 < cs.size := (Array.getElem?_eq_some_iff.1 h3).1
    refine ⟨cv, iv, ?_, ?_, fun h => by omega, fun _ => hP, fun h => by omega⟩
    · rw [Array.getElem?_setIfInBounds_ne (by omega), Array.getElem?_setIfInBounds]
      simp [q2]
    · rw [Array.getElem?_setIfInBounds]
      simp [q3]
  · refine ⟨cv0, iv0, by rw [ne _ (by omega) (by omega)]; exact h2, by rw [ne _ (by omega) (by omega)]; exact h3, fun h => ⟨?_, ?_⟩, fun h => absurd h hji, hc⟩
    · exact Kd.R_set (Kd.R_set (hm h).1 hg (by decide) _ _) hg1 (by decide) _ _
    · exact Kd.R_set (Kd.R_set (hm h).2 hg (by decide) _ _) hg1 (by decide) _ _
theorem CopH.other (h : CopH w W g cap ts i f P) {gi : Nat} {cells : Array Value} (hgi : W.heap[gi]? = some (.cells cells 98 (0, 0))) (hB : w.heap.size ≤ gi) (hf : f gi = i) (j : Nat) (u : Value) : CopH w (W.setCell ⟨gi, j, none⟩ u) g cap ts i f P := by
  obtain ⟨cs, hg, hs, hr⟩ := h.blk
  have hne : g ≠ gi := blk_ne hg hgi (by decide)
  refine ⟨h.below.setCell (p := ⟨gi, j, none⟩) hB _, h.base, h.room, cs, blk_far hg (p := ⟨gi, j, none⟩) hne u, hs, fun q hq => ?_⟩
  obtain ⟨h0, h1, h4, cv, iv, h2, h3, hm, hp, hc⟩ := hr q hq
  exact ⟨h0, h1, h4, cv, iv, h2, h3, fun hl => ⟨Kd.R_far (hm hl).1 (fun k hk e => by rw [e, hf] at hk; omega) u, Kd.R_far (hm hl).2 (fun k hk e => by rw [e, hf] at hk; omega) u⟩, hp, hc⟩
theorem CopH.next (h : CopH w W g cap ts i f P) (hi : i < ts.length) (hP : ∀ cv iv, P cv iv → k75.R 75 W w.heap.size (fun k => f k = i) cv ts[i].f2 ∧ k98.R 98 W w.heap.size (fun k => f k = i) iv ts[i].f3) : CopH w W g cap ts (i + 1) f (fun cv iv => ∀ (hq : i + 1 < ts.length), CameC w cv ts[i + 1].f2 ∧ CameI w iv ts[i + 1].f3) := by
  obtain ⟨cs, hg, hs, hr⟩ := h.blk
  refine ⟨h.below, h.base, h.room, cs, hg, hs, fun j hj => ?_⟩
  obtain ⟨h0, h1, h4, cv, iv, h2, h3, hm, hp, hc⟩ := hr j hj
  refine ⟨h0, h1, h4, cv, iv, h2, h3, fun hl => ?_, fun he hq => ?_, fun hl => hc (by omega)⟩
  · by_cases hji : j = i
    · subst hji; exact hP cv iv (hp rfl)
    · exact hm (by omega)
  · subst he; exact hc (by omega)
theorem CopH.own (h : CopH w W g cap ts i f P) : CopH w W g cap ts i (fun k => if k < W.heap.size then f k else i) P := by
  obtain ⟨cs, hg, hs, hr⟩ := h.blk
  refine ⟨h.below, h.base, h.room, cs, hg, hs, fun j hj => ?_⟩
  obtain ⟨h0, h1, h4, cv, iv, h2, h3, hm, hp, hc⟩ := hr j hj
  refine ⟨h0, h1, h4, cv, iv, h2, h3, fun hl => ⟨?_, ?_⟩, hp, hc⟩
  · exact Kd.R_mono (Kd.R_bound (hm hl).1) (fun k hk => by rw [if_pos hk.2.2.1]; exact hk.1)
  · exact Kd.R_mono (Kd.R_bound (hm hl).2) (fun k hk => by rw [if_pos hk.2.2.1]; exact hk.1)
theorem raw_rows {A : Option Addr} {n : Nat} (hC : k70.C w A n ts) : ∃ rows : List (List Value), rows.length = ts.length ∧ (Kd.raw 5).C w A n rows ∧ ∀ (j : Nat) (x : S70) (c : List Value), ts[j]? = some x → rows[j]? = some c → k70.K w x c :=
  Kd.reads_raw (sz := 5) hC (fun x c hk => ⟨k70.K_len hk, k70.K_one hk⟩)
theorem CopH.new {B : Nat} {rows : List (List Value)} (h : (Kd.raw 5).R 70 W B (fun _ => True) (.slice (some ⟨g, 0, none⟩) rows.length cap) rows) (hB : w.heap.size ≤ B) (hb : Below w.heap.size w W) (hl : rows.length = ts.length) (hK : ∀ (j : Nat) (x : S70) (c : List Value), ts[j]? = some x → rows[j]? = some c → k70.K w x c) :
    CopH w W g cap ts 0 (fun _ => 0) (fun cv iv => ∀ (hq : 0 < ts.length), CameC w cv ts[0].f2 ∧ CameI w iv ts[0].f3) := by
  obtain ⟨inner, ho⟩ := Kd.R_own h
  rcases ho.2 with ⟨e, hn⟩ | ⟨g', cap', cur, e, hbb, hg, hle, hmx, hsz, -⟩
  · cases e
  · injection e with e1 e2 e3
    injection e1 with e1
    injection e1 with e1
    subst e1 e3
    refine ⟨hb, Nat.le_trans hB hbb, ⟨by rw [← hl]; exact hle, hmx⟩, cur, hg, hsz, fun j hj => ?_⟩
    have hjr : j < rows.length := by omega
    obtain ⟨c, h1, h2, h3, -⟩ := Kd.R_elem h [] (j : Int) (by omega) (by omega)
    rw [show rows.getD (j : Int).toNat [] = rows[j] by simp [List.getD, hjr]] at h2
    have hc : c = rows[j] := h2.1
    have hk := hK j ts[j] rows[j] (List.getElem?_eq_getElem hj) (List.getElem?_eq_getElem hjr)
    rw [← hc] at hk
    obtain ⟨A2, c2, A3, c3, rfl, l2, g2, l3, g3⟩ := k70_open hk
    have q : ∀ (s : Nat) (u : Value), ([.int .i64 ts[j].f0, .string ts[j].f1, .slice A2 ts[j].f2.length c2, .slice A3 ts[j].f3.length c3, .int .i64 ts[j].f4] : List Value)[s]? = some u → cur[j * 5 + s]? = some u := fun s u hu => by
      have := h3 s u hu
      rw [Go.Proofs.YtjgomlcdmpcoaaaDoorW.PrintWords.blk_cell hg] at this
      exact this
    exact ⟨q 0 _ rfl, q 1 _ rfl, q 4 _ rfl, _, _, q 2 _ rfl, q 3 _ rfl, fun h => by omega, fun he hq => by subst he; exact ⟨⟨A2, c2, rfl, l2, g2⟩, ⟨A3, c3, rfl, l3, g3⟩⟩, fun _ => ⟨⟨A2, c2, rfl, l2, g2⟩, ⟨A3, c3, rfl, l3, g3⟩⟩⟩
theorem CopH.see (h : CopH w W g cap ts i f P) (hi : i < ts.length) : ∃ cv iv, P cv iv ∧ W.cell? ⟨g, i * 5 + 2, none⟩ = some cv ∧ W.cell? ⟨g, i * 5 + 3, none⟩ = some iv ∧ (∀ q, W.frozen? ⟨g, q, none⟩ = false) ∧ g < W.heap.size := by
  obtain ⟨cs, hg, hs, hr⟩ := h.blk
  obtain ⟨-, -, -, cv, iv, h2, h3, -, hp, -⟩ := hr i hi
  exact ⟨cv, iv, hp rfl, H.blk_cell hg h2, H.blk_cell hg h3, fun q => blk_frozen hg q, lt_of_block hg⟩
theorem S_none {v : Value} {B : Nat} (h : (Kd.raw 5).R 70 W B (fun _ => True) v []) : Kd.S k70 70 W B (fun _ => True) v [] := by
  obtain ⟨h0, inner, ho, hr⟩ := h
  exact ⟨fun _ => 0, h0, inner, ho, hr.1, fun j p hj => by simp at hj⟩
theorem CopH.all (h : CopH w W g cap ts ts.length f P) : Kd.S k70 70 W w.heap.size (fun _ => True) (.slice (some ⟨g, 0, none⟩) ts.length cap) ts := by
  obtain ⟨cs, hg, hs, hr⟩ := h.blk
  have hl : ts.zipIdx.length = ts.length := List.length_zipIdx
  refine ⟨f, ?_⟩
  have := R_cells (d := Kd.tag f k70) (ok := fun _ => True) (xs := ts.zipIdx) hg h.base trivial (by rw [hl]; exact h.room.1) h.room.2 hs (fun j hj => by
    have hjl : j < ts.length := by rwa [hl] at hj
    obtain ⟨h0, h1, h4, cv, iv, h2, h3, hm, -⟩ := hr j hjl
    have e : (cs.toList.drop (j * 5)).take 5 = [.int .i64 ts[j].f0, .string ts[j].f1, cv, iv, .int .i64 ts[j].f4] := take5 (k := j * 5) (by simpa using h0) (by simpa using h1) (by simpa using h2) (by simpa using h3) (by simpa using h4)
    show k70.M W w.heap.size _ (ts.zipIdx[j]).1 ((cs.toList.drop (j * 5)).take 5)
    rw [e]
    have ez : ts.zipIdx[j] = (ts[j], j) := by simp
    have hng : ∀ k, (∃ cells q, W.heap[k]? = some (.cells cells q (0, 0)) ∧ q ≠ 70) → some k ≠ (Value.slice (some ⟨g, 0, none⟩) ts.zipIdx.length cap).ownBlock := fun k ⟨cells, q, hk, hq⟩ e => by
      simp [Value.ownBlock] at e
      rw [e, hg] at hk
      injection hk with hk
      injection hk with _ ht _
      exact hq ht.symm
    rw [ez]
    refine k70_mkM W w.heap.size _ ts[j] (Kd.R_mono (Kd.R_bound (hm hjl).1) (fun k hk => ⟨⟨trivial, hng k ?_⟩, hk.1⟩)) (Kd.R_mono (Kd.R_bound (hm hjl).2) (fun k hk => ⟨⟨trivial, hng k ?_⟩, hk.1⟩))
    · obtain ⟨-, -, -, q, hq, cells, hk⟩ := hk
      exact ⟨cells, q, hk, fun e => by subst e; exact absurd hq (by decide)⟩
    · obtain ⟨-, -, -, q, hq, cells, hk⟩ := hk
      exact ⟨cells, q, hk, fun e => by subst e; exact absurd hq (by decide)⟩)
  rw [hl] at this
  exact this
end
end Go.Proofs.YtjgomlcdmpcoaaaDoor.H
namespace Go.Proofs.YtjgomlcdmpcoaaaDoor.H
open Go.RowKit Go.Proofs.YtjgomlcdmpcoaaaDoorW.PrintWords Go.Proofs.YtjgomlcdmpcoaaaDoorW.PrintLast Go.Proofs.YtjgomlcdmpcoaaaDoorW.PrintMore
open Go.Proofs.YtjgomlcdmpcoaaaDoor.D Go.Proofs.YtjgomlcdmpcoaaaDoor
set_option linter.unusedVariables false
set_option linter.unusedSimpArgs false
structure CopB (w W : World) (v nx : Int) (u : Value) : Prop where
  b0 : W.heap[w.heap.size]? = some (.cells #[.int .i64 v, u, .int .i64 nx] 28 (0, 0))
  b1 : W.heap[w.heap.size + 1]? = some (.cells #[.int .i64 0, .slice none 0 0, .int .i64 0] 28 (0, 0))
theorem CopB.step {w W W' : World} {v nx : Int} {u : Value} (h : CopB w W v nx u) (hb : Below W.heap.size W W') : CopB w W' v nx u := ⟨blk_below h.b0 hb, blk_below h.b1 hb⟩
theorem CopB.far {w W : World} {v nx : Int} {u : Value} (h : CopB w W v nx u) {g j t : Nat} {cs : Array Value} (hg : W.heap[g]? = some (.cells cs t (0, 0))) (ht : 28 ≠ t) (x : Value) : CopB w (W.setCell ⟨g, j, none⟩ x) v nx u :=
  ⟨blk_far h.b0 (p := ⟨g, j, none⟩) (blk_ne h.b0 hg ht) _, blk_far h.b1 (p := ⟨g, j, none⟩) (blk_ne h.b1 hg ht) _⟩
set_option maxRecDepth 100000 in
set_option maxHeartbeats 8000000 in
theorem copied_calls (v : Int) (ts : List S70) (nx : Int) (hsm : Small ts) (A : Option Addr) (c : Nat) (w : World) (hc : ts.length ≤ c) (hC : k70.C w A ts.length ts) :
    Calls Tryd.prog 109 #[.agg #[.int .i64 v, .slice A ts.length c, .int .i64 nx]] w fun e w' => ∃ u, e = .returned (.agg #[.int .i64 v, u, .int .i64 nx]) ∧ Kd.S k70 70 w' w.heap.size (fun _ => True) u ts ∧ Below w.heap.size w w' := by
  obtain ⟨rows, hrl, hrC, hrK⟩ := raw_rows hC
  obtain ⟨w0, hw0⟩ : ∃ w0, w0 = (w.alloc (.cells #[.int .i64 v, .slice A ts.length c, .int .i64 nx] 28)).alloc (.cells #[.int .i64 0, .slice none 0 0, .int .i64 0] 28) := ⟨_, rfl⟩
  have hb0 : Below w.heap.size w w0 := by rw [hw0]; exact below_alloc (below_alloc (Below.refl _ _) _) _
  have hB0 : CopB w w0 v nx (.slice A ts.length c) := by
    rw [hw0]
    refine ⟨blk_alloc (heap_alloc_new w _) _, ?_⟩
    have := heap_alloc_new (w.alloc (.cells #[.int .i64 v, .slice A ts.length c, .int .i64 nx] 28)) (.cells #[.int .i64 0, .slice none 0 0, .int .i64 0] 28)
    simpa using this
  have HCL := Lib.hid (clone152 rows A c w0 (by rw [hrl]; exact Nat.le_trans hsm.1 (by decide)) (Kd.C_below (by rw [hrl]; exact hrC) hb0))
  have HB0 := Aside0.mk hb0
  have HX0 := Aside0.mk hB0
  have HK := Lib.hid hrK
  have HSM := Lib.hid hsm
  have HRL := Lib.hid hrl
  have hts := hsm.1
  have HW0 := Lib.hid hw0
  rw [hw0, hrl] at HCL
  clear hb0 hB0 hrC hrK hsm hC hrl hw0
  go_enter Tryd.func109, Tryd.ntmps109
  go_wp2_with fail
  refine HCL.out.mono ?_
  rw [← HW0.out]
  rintro e w1 ⟨u, rfl, hu, hb1⟩
  have hX1 := HX0.out.step hb1
  have HB1 := Aside0.mk (below_then HB0.out HB0.out.size hb1)
  obtain ⟨Au, cu, hue⟩ := Kd.R_slice hu
  rw [HRL.out] at hue
  subst hue
  have x1 := blk_cell (j := 1) (v := .slice A ts.length c) hX1.b0 rfl
  have f1 := blk_frozen hX1.b0 1
  have hwl : w.heap.size < w1.heap.size := lt_of_block hX1.b0
  have hX2 : CopB w (w1.setCell ⟨w.heap.size, 1, none⟩ (.slice Au ts.length cu)) v nx (.slice Au ts.length cu) := ⟨blk_put hX1.b0 1 _ rfl, blk_far hX1.b1 (p := ⟨w.heap.size, 1, none⟩) (show w.heap.size + 1 ≠ w.heap.size by omega) _⟩
  have hu2 := Kd.R_set hu hX1.b0 (by decide) 1 (.slice Au ts.length cu)
  have hb2 := HB1.out.setCell (p := ⟨w.heap.size, 1, none⟩) (Nat.le_refl _) (.slice Au ts.length cu)
  have HX2 := Aside0.mk hX2
  have HU2 := Aside0.mk hu2
  have HB2 := Aside0.mk hb2
  clear hX1 hb1 hu hX2 hu2 hb2
  go_wp2_with fail
  clear x1 f1
  generalize w1.setCell ⟨w.heap.size, 1, none⟩ (.slice Au ts.length cu) = w2 at HX2 HU2 HB2 ⊢
  rcases Nat.eq_zero_or_pos ts.length with h0 | hpos
  · have hts0 : ts = [] := List.eq_nil_of_length_eq_zero h0
    have hr0 : rows = [] := List.eq_nil_of_length_eq_zero (by rw [HRL.out]; exact h0)
    have hS0 : Kd.S k70 70 w2 w.heap.size (fun _ => True) (.slice Au ts.length cu) ts := by
      have h := HU2.out
      rw [hr0] at h
      have h2 := S_none h
      rw [hts0]
      rw [hts0] at h2
      exact Kd.S_lower h2 HB0.out.size
    have hltz : ¬ (0 : Int) < (ts.length : Int) := by omega
    have H0 := Lib.hid h0
    clear hts0 hr0 h0
    go_loopg [13] 0 (fun gg u13 wr => u13 = .int .i64 0 ∧ wr = w2)
    case atStart => exact ⟨rfl, rfl⟩
    case round =>
      obtain ⟨rfl, rfl⟩ := hrel
      have hS := hS0
      have hS2 := S_set3 (a := .int .i64 v) (b := .slice Au ts.length cu) (c := .int .i64 nx) hS HX2.out.b1
      have hb9 := ((HB2.out.setCell (p := ⟨w.heap.size + 1, 0, none⟩) (show w.heap.size ≤ w.heap.size + 1 by omega) (.int .i64 v)).setCell (p := ⟨w.heap.size + 1, 1, none⟩) (show w.heap.size ≤ w.heap.size + 1 by omega) (.slice Au ts.length cu)).setCell (p := ⟨w.heap.size + 1, 2, none⟩) (show w.heap.size ≤ w.heap.size + 1 by omega) (.int .i64 nx)
      have HFIN := Aside0.mk (And.intro hS2 hb9)
      have x0 := blk_cell (j := 0) (v := .int .i64 v) HX2.out.b0 rfl
      have x1 := blk_cell (j := 1) (v := .slice Au ts.length cu) HX2.out.b0 rfl
      have x2 := blk_cell (j := 2) (v := .int .i64 nx) HX2.out.b0 rfl
      have c0 := blk_cell (j := 0) (v := .int .i64 0) HX2.out.b1 rfl
      have c1 := blk_cell (j := 1) (v := .slice none 0 0) HX2.out.b1 rfl
      have c2 := blk_cell (j := 2) (v := .int .i64 0) HX2.out.b1 rfl
      have f0 := blk_frozen HX2.out.b1 0
      have f1 := blk_frozen HX2.out.b1 1
      have f2 := blk_frozen HX2.out.b1 2
      clear hS hS2 hb9
      go_wp2
      refine bodyPost_ret (v := .agg #[.int .i64 v, .slice Au ts.length cu, .int .i64 nx]) (by simp [results, Tryd.results109, go_sem, c0, c1, c2]) rfl ?_
      exact ⟨_, rfl, HFIN.out.1, HFIN.out.2⟩
  · obtain ⟨g, cap, hgv, -⟩ := Kd.R_form HU2.out (by rw [HRL.out]; exact hpos)
    rw [HRL.out] at hgv
    injection hgv with e1 e2 e3
    subst e1 e3
    have HH := Aside0.mk (CopH.new (w := w) (ts := ts) (by rw [HRL.out]; exact HU2.out) HB0.out.size HB2.out HRL.out HK.out)
    clear HU2 HCL
    go_loopg [13] ts.length (fun gg u13 wr => ∃ i : Nat, ∃ f : Nat → Nat, i ≤ ts.length ∧ ts.length - i ≤ gg ∧ u13 = .int .i64 i ∧ Aside0 (CopH w wr g cu ts i f (fun cv iv => ∀ (hq : i < ts.length), CameC w cv ts[i].f2 ∧ CameI w iv ts[i].f3)) ∧ Aside0 (CopB w wr v nx (.slice (some ⟨g, 0, none⟩) ts.length cu)))
    case atStart => exact ⟨0, _, Nat.zero_le _, by omega, rfl, HH, HX2⟩
    case round =>
      clear HH HX2
      obtain ⟨i, f, hi, hgi, rfl, HH, HX⟩ := hrel
      by_cases hlt : i < ts.length
      · have hltz : (i : Int) < (ts.length : Int) := by omega
        have hi0 : (0 : Int) ≤ (i : Int) := by omega
        obtain ⟨cv, iv, hP, h2, h3, hfr, hgl⟩ := HH.out.see hlt
        obtain ⟨⟨A2, c2, rfl, l2, g2⟩, ⟨A3, c3, rfl, l3, g3⟩⟩ := hP hlt
        have hsI := HSM.out.2 _ (List.getElem_mem hlt)
        have HC1 := Lib.hid (fun (W : World) (hb : Below w.heap.size w W) => clone113 ts[i].f2 A2 c2 W (Nat.le_trans hsI.1 (by decide)) (Kd.C_below g2 hb))
        obtain ⟨rowsI, hil, hiC, hiK⟩ := Kd.reads_raw (sz := 5) g3 (fun x c hk => ⟨k98.K_len hk, k98.K_one hk⟩)
        have HC2 := Lib.hid (fun (W : World) (hb : Below w.heap.size w W) => clone153 rowsI A3 c3 W (by rw [hil]; exact Nat.le_trans hsI.2.1 (by decide)) (Kd.C_below (by rw [hil]; exact hiC) hb))
        rw [hil] at HC2
        have HIL := Lib.hid hil
        have HIK := Lib.hid hiK
        have x1 := blk_cell (j := 1) (v := .slice (some ⟨g, 0, none⟩) ts.length cu) HX.out.b0 rfl
        have hbr := HH.out.below
        have HBR := Aside0.mk hbr
        have hfr2 := hfr (i * 5 + 2)
        have hfr3 := hfr (i * 5 + 3)
        clear hP g2 g3 hiC hiK hsI hil hbr hfr
        go_wp2_with fail
        obtain ⟨BB, hBB⟩ : ∃ BB, wr.heap.size = BB := ⟨_, rfl⟩
        have HBBL := Lib.hid (show w.heap.size ≤ BB by rw [← hBB]; exact HBR.out.size)
        have HBB := Lib.hid hBB
        clear hBB
        go_cut [13] from 13 to 61 (fun u13 wc => u13 = .int .i64 i ∧ ∃ A4 c4 A5 c5, Aside0 (CopH w wc g cu ts i (fun k => if k < BB then f k else i) (fun cv iv => cv = .slice A4 ts[i].f2.length c4 ∧ iv = .slice A5 ts[i].f3.length c5)) ∧ Aside0 (k75.R 75 wc BB (fun _ => True) (.slice A4 ts[i].f2.length c4) ts[i].f2) ∧ Aside0 (CopB w wc v nx (.slice (some ⟨g, 0, none⟩) ts.length cu)) ∧ Aside0 ((ts[i].f3.length = 0 ∧ k98.R 98 wc BB (fun _ => True) (.slice A5 ts[i].f3.length c5) ts[i].f3) ∨ (∃ gi, A5 = some ⟨gi, 0, none⟩ ∧ 0 < ts[i].f3.length ∧ IdxS w wc BB gi c5 ts[i].f3 0)))
        case first =>
          go_region_law (first
            | (go_simp; go_at_call 113; refine (HC1.out _ (below_then HBR.out HBR.out.size (below_drew (Below.refl _ _)))).mono ?_; rintro e w3 ⟨v1, rfl, hv1, hb3⟩; obtain ⟨A4, c4, hq1⟩ := Kd.R_slice hv1; subst hq1; have hbA := below_then (below_drew (Below.refl _ wr)) (Nat.le_refl _) hb3; have d2 := pw_cell_below hbA h2; have d3 := pw_cell_below hbA h3)
            | (go_simp; go_at_call 153; refine (HC2.out _ (below_then HBR.out HBR.out.size hbA)).mono ?_; rintro e w4 ⟨v2, rfl, hv2, hb4⟩; obtain ⟨A5, c5, hq2⟩ := Kd.R_slice hv2; rw [HIL.out] at hq2; subst hq2; have hbB := below_then hbA hbA.size hb4; have e2 := pw_cell_below hbB h2; have e3 := pw_cell_below hbB h3; obtain ⟨cs4, hg4, -⟩ := (HH.out.step hbB).blk; have ff2 := blk_frozen hg4 (i * 5 + 2); have ff3 := blk_frozen hg4 (i * 5 + 3); have hgl4 := lt_of_block hg4; clear hg4))
          all_goals
            have hv1b := Kd.R_below hv1 hb4
            obtain ⟨cs4, hg4, -⟩ := (HH.out.step hbB).blk
            have hg5 := blk_set hg4 (i * 5 + 2) (.slice A4 ts[i].f2.length c4)
            have hv5 := Kd.R_set (Kd.R_set hv1b hg4 (by decide) (i * 5 + 2) (.slice A4 ts[i].f2.length c4)) hg5 (by decide) (i * 5 + 3) (.slice A5 ts[i].f3.length c5)
            have hX5 := ((HX.out.step hbB).far hg4 (by decide) (j := i * 5 + 2) (.slice A4 ts[i].f2.length c4)).far hg5 (by decide) (j := i * 5 + 3) (.slice A5 ts[i].f3.length c5)
            have hH5 := (HH.out.own.step hbB).put (P' := fun cv iv => cv = .slice A4 ts[i].f2.length c4 ∧ iv = .slice A5 ts[i].f3.length c5) (.slice A4 ts[i].f2.length c4) (.slice A5 ts[i].f3.length c5) ⟨rfl, rfl⟩
            have hw3 : wr.heap.size ≤ w3.heap.size := hbA.size
            have hI5 : (ts[i].f3.length = 0 ∧ k98.R 98 ((w4.setCell ⟨g, i * 5 + 2, none⟩ (.slice A4 ts[i].f2.length c4)).setCell ⟨g, i * 5 + 3, none⟩ (.slice A5 ts[i].f3.length c5)) wr.heap.size (fun _ => True) (.slice A5 ts[i].f3.length c5) ts[i].f3) ∨ (∃ gi, A5 = some ⟨gi, 0, none⟩ ∧ 0 < ts[i].f3.length ∧ IdxS w ((w4.setCell ⟨g, i * 5 + 2, none⟩ (.slice A4 ts[i].f2.length c4)).setCell ⟨g, i * 5 + 3, none⟩ (.slice A5 ts[i].f3.length c5)) wr.heap.size gi c5 ts[i].f3 0) := by
              rcases Nat.eq_zero_or_pos ts[i].f3.length with hz | hz
              · have hr0 : rowsI = [] := List.eq_nil_of_length_eq_zero (by rw [HIL.out]; exact hz)
                have hx0 : ts[i].f3 = [] := List.eq_nil_of_length_eq_zero hz
                have h0 := I_none (B' := wr.heap.size) (by rw [hr0] at hv2; exact hv2) hw3
                refine .inl ⟨hz, ?_⟩
                have h1 := Kd.R_set (Kd.R_set h0 hg4 (by decide) (i * 5 + 2) (.slice A4 ts[i].f2.length c4)) hg5 (by decide) (i * 5 + 3) (.slice A5 ts[i].f3.length c5)
                rw [← hx0] at h1
                exact h1
              · obtain ⟨gi, cap', hgv, -⟩ := Kd.R_form hv2 (by rw [HIL.out]; exact hz)
                rw [HIL.out] at hgv
                injection hgv with e1 e2 e3
                subst e1 e3
                exact .inr ⟨gi, rfl, hz, ((IdxS.new (by rw [HIL.out]; exact hv2) hw3 HBR.out.size HIL.out HIK.out).far hg4 _).far hg5 _⟩
            have HV5 := Aside0.mk (show k75.R 75 ((w4.setCell ⟨g, i * 5 + 2, none⟩ (.slice A4 ts[i].f2.length c4)).setCell ⟨g, i * 5 + 3, none⟩ (.slice A5 ts[i].f3.length c5)) wr.heap.size (fun _ => True) (.slice A4 ts[i].f2.length c4) ts[i].f2 from hv5)
            have HX5 := Aside0.mk hX5
            have HH5 := Aside0.mk hH5
            have HI5 := Aside0.mk hI5
            rw [HBB.out] at hI5
            have hV5' : k75.R 75 ((w4.setCell ⟨g, i * 5 + 2, none⟩ (.slice A4 ts[i].f2.length c4)).setCell ⟨g, i * 5 + 3, none⟩ (.slice A5 ts[i].f3.length c5)) BB (fun _ => True) (.slice A4 ts[i].f2.length c4) ts[i].f2 := by rw [← HBB.out]; exact hv5
            have hH5' : CopH w ((w4.setCell ⟨g, i * 5 + 2, none⟩ (.slice A4 ts[i].f2.length c4)).setCell ⟨g, i * 5 + 3, none⟩ (.slice A5 ts[i].f3.length c5)) g cu ts i (fun k => if k < BB then f k else i) (fun cv iv => cv = .slice A4 ts[i].f2.length c4 ∧ iv = .slice A5 ts[i].f3.length c5) := by rw [← HBB.out]; exact hH5
            clear hv1 hb3 hbA d2 d3 hv2 hb4 hbB e2 e3 ff2 ff3 hgl4 hv1b hg4 hg5 h2 h3 hfr2 hfr3 x1
            go_wp2_with fail
            go_meet
            exact ⟨rfl, A4, c4, A5, c5, ⟨hH5'⟩, ⟨hV5'⟩, ⟨hX5⟩, ⟨hI5⟩⟩
        case rest =>
          obtain ⟨rfl, A4, c4, A5, c5, HH5, HV5, HX5, HI5⟩ := hcut
          have hwB := HBBL.out
          have hsI := HSM.out.2 _ (List.getElem_mem hlt)
          have hm3 := hsI.2.1
          have HSI := Lib.hid hsI.2.2
          clear hsI h2 h3 hfr2 hfr3 x1 HC1 HC2 HH HX HBR hgl
          obtain ⟨cv, iv, ⟨rfl, rfl⟩, -, y3, -, hg5⟩ := HH5.out.see hlt
          go_wp2_with fail
          clear y3 hg5
          go_loopg [41] ts[i].f3.length (fun gg u41 W => ∃ j : Nat, j ≤ ts[i].f3.length ∧ ts[i].f3.length - j ≤ gg ∧ u41 = .int .i64 j ∧ Aside0 (CopH w W g cu ts i (fun k => if k < BB then f k else i) (fun cv iv => cv = .slice A4 ts[i].f2.length c4 ∧ iv = .slice A5 ts[i].f3.length c5)) ∧ Aside0 (k75.R 75 W BB (fun _ => True) (.slice A4 ts[i].f2.length c4) ts[i].f2) ∧ Aside0 (CopB w W v nx (.slice (some ⟨g, 0, none⟩) ts.length cu)) ∧ Aside0 ((ts[i].f3.length = 0 ∧ k98.R 98 W BB (fun _ => True) (.slice A5 ts[i].f3.length c5) ts[i].f3) ∨ (∃ gi, A5 = some ⟨gi, 0, none⟩ ∧ 0 < ts[i].f3.length ∧ IdxS w W BB gi c5 ts[i].f3 j)))
          case atStart => exact ⟨0, Nat.zero_le _, by omega, rfl, HH5, HV5, HX5, HI5⟩
          case round =>
            clear HH5 HV5 HX5 HI5
            obtain ⟨j, hj, hgj, rfl, HH, HV, HX, HI⟩ := hrel
            by_cases hlj : j < ts[i].f3.length
            · have hljz : (j : Int) < (ts[i].f3.length : Int) := by omega
              have hj0 : (0 : Int) ≤ (j : Int) := by omega
              rcases HI.out with ⟨hz, -⟩ | ⟨gi, hA5, hz, hI⟩
              · omega
              obtain ⟨A6, c6, q2, l6, g6, qf, qgl, cells, hcells⟩ := hI.see hlj
              have hx6 := HSI.out _ (List.getElem_mem hlj)
              have HC3 := Lib.hid (fun (W : World) (hb : Below w.heap.size w W) => clone154 ts[i].f3[j].f2 A6 c6 W (Nat.le_trans hx6 (by decide)) (Kd.C_below g6 hb))
              obtain ⟨cv, iv, ⟨rfl, rfl⟩, -, y3, -, hg5⟩ := HH.out.see hlt
              have HBR6 := Aside0.mk HH.out.below
              have HI6 := Aside0.mk hI
              rw [hA5] at y3
              have HA5 := Lib.hid hA5
              clear hI g6 hx6 hA5 hcells
              go_wp2_with fail
              go_region_law ((go_simp; go_at_call 154; refine (HC3.out _ (below_then HBR6.out HBR6.out.size (below_drew (Below.refl _ _)))).mono ?_; rintro e w7 ⟨v3, rfl, hv3, hb7⟩; obtain ⟨A7, c7, hq7⟩ := Kd.R_slice hv3; subst hq7; have hbC := below_then (below_drew (Below.refl _ wr)) (Nat.le_refl _) hb7; have z2 := pw_cell_below hbC q2; have z3 := pw_cell_below hbC y3; obtain ⟨cs7, hg7, -⟩ := (HI6.out.step hbC).blk; have zf := blk_frozen hg7 (j * 5 + 2); have zl := lt_of_block hg7; clear hg7))
              all_goals
                obtain ⟨cs7, hg7, -⟩ := (HI6.out.step hbC).blk
                have hgiB := HI6.out.base
                have hfi : (fun k => if k < BB then f k else i) gi = i := if_neg (by omega)
                have HI7 := Aside0.mk ((HI6.out.step hbC).put hlj (Kd.R_lower hv3 (Nat.le_trans HI6.out.base (Nat.le_of_lt qgl))))
                have HH7 := Aside0.mk ((HH.out.step hbC).other hg7 (Nat.le_trans hwB hgiB) hfi (j * 5 + 2) (.slice A7 ts[i].f3[j].f2.length c7))
                have HV7 := Aside0.mk (Kd.R_set (Kd.R_below HV.out hbC) hg7 (by decide) (j * 5 + 2) (.slice A7 ts[i].f3[j].f2.length c7))
                have HX7 := Aside0.mk ((HX.out.step hbC).far hg7 (by decide) (j := j * 5 + 2) (.slice A7 ts[i].f3[j].f2.length c7))
                clear hv3 hb7 hbC z2 z3 hg7 zf zl q2 y3 qf HH HV HX HI HI6 hg5 HC3 hfi
                go_wp2
                go_roundg (ts[i].f3.length - (j + 1))
                case measure => omega
                case rel => exact ⟨j + 1, by omega, by omega, by go_num, HH7, HV7, HX7, ⟨.inr ⟨gi, HA5.out, hz, HI7.out⟩⟩⟩
            · have hljz : ¬ (j : Int) < (ts[i].f3.length : Int) := by omega
              have hI : k98.R 98 wr BB (fun _ => True) (.slice A5 ts[i].f3.length c5) ts[i].f3 := by
                rcases HI.out with ⟨hz, h⟩ | ⟨gi, rfl, hz, h⟩
                · exact h
                · obtain rfl : j = ts[i].f3.length := by omega
                  exact h.all
              have hown : ∀ k, BB ≤ k → (fun k => if k < BB then f k else i) k = i := fun k hk => if_neg (by omega)
              have HN := Aside0.mk (HH.out.next hlt (fun cv iv ⟨e1, e2⟩ => by
                subst e1 e2
                exact ⟨Kd.R_lower (Kd.R_mono (Kd.R_bound HV.out) (fun k hk => hown k hk.2.1)) hwB, Kd.R_lower (Kd.R_mono (Kd.R_bound hI) (fun k hk => hown k hk.2.1)) hwB⟩))
              clear hI hown HH HV HI
              go_wp2
              go_roundg (ts.length - (i + 1))
              case measure => omega
              case rel => exact ⟨i + 1, _, by omega, by omega, by go_num, HN, HX⟩
      · have hltz : ¬ (i : Int) < (ts.length : Int) := by omega
        obtain rfl : i = ts.length := by omega
        have hS := HH.out.all
        have hS2 := S_set3 (a := .int .i64 v) (b := .slice (some ⟨g, 0, none⟩) ts.length cu) (c := .int .i64 nx) hS HX.out.b1
        have hb9 := ((HH.out.below.setCell (p := ⟨w.heap.size + 1, 0, none⟩) (show w.heap.size ≤ w.heap.size + 1 by omega) (.int .i64 v)).setCell (p := ⟨w.heap.size + 1, 1, none⟩) (show w.heap.size ≤ w.heap.size + 1 by omega) (.slice (some ⟨g, 0, none⟩) ts.length cu)).setCell (p := ⟨w.heap.size + 1, 2, none⟩) (show w.heap.size ≤ w.heap.size + 1 by omega) (.int .i64 nx)
        have HFIN := Aside0.mk (And.intro hS2 hb9)
        have x0 := blk_cell (j := 0) (v := .int .i64 v) HX.out.b0 rfl
        have x1 := blk_cell (j := 1) (v := .slice (some ⟨g, 0, none⟩) ts.length cu) HX.out.b0 rfl
        have x2 := blk_cell (j := 2) (v := .int .i64 nx) HX.out.b0 rfl
        have c0 := blk_cell (j := 0) (v := .int .i64 0) HX.out.b1 rfl
        have c1 := blk_cell (j := 1) (v := .slice none 0 0) HX.out.b1 rfl
        have c2 := blk_cell (j := 2) (v := .int .i64 0) HX.out.b1 rfl
        have f0 := blk_frozen HX.out.b1 0
        have f1 := blk_frozen HX.out.b1 1
        have f2 := blk_frozen HX.out.b1 2
        clear hS hS2 hb9
        go_wp2
        refine bodyPost_ret (v := .agg #[.int .i64 v, .slice (some ⟨g, 0, none⟩) ts.length cu, .int .i64 nx]) (by simp [results, Tryd.results109, go_sem, c0, c1, c2]) rfl ?_
        exact ⟨_, rfl, HFIN.out.1, HFIN.out.2⟩
end Go.Proofs.YtjgomlcdmpcoaaaDoor.H
namespace Go.Proofs.YtjgomlcdmpcoaaaDoor.H
open Go.RowKit Go.Proofs.YtjgomlcdmpcoaaaDoorW.PrintWords Go.Proofs.YtjgomlcdmpcoaaaDoorW.PrintLast Go.Proofs.YtjgomlcdmpcoaaaDoorW.PrintMore
open Go.Proofs.YtjgomlcdmpcoaaaDoor.D Go.Proofs.YtjgomlcdmpcoaaaDoor
set_option linter.unusedVariables false
set_option linter.unusedSimpArgs false
def nxtE (v : Int) (ts : List S70) (nx : Int) : Int := if schB v ts nx = false then 3 else if 1099511627775 ≤ v then 4 else 0
def NxtPost (v : Int) (ts : List S70) (nx : Int) (w : World) (e : Ending) (w' : World) : Prop :=
  Below w.heap.size w w' ∧ ((nxtE v ts nx ≠ 0 ∧ e = .returned (.tuple #[.agg #[.int .i64 0, .slice none 0 0, .int .i64 0], .int .i64 (nxtE v ts nx)])) ∨
    (nxtE v ts nx = 0 ∧ ∃ u, e = .returned (.tuple #[.agg #[.int .i64 (v + 1), u, .int .i64 nx], .int .i64 0]) ∧ Kd.S k70 70 w' w.heap.size (fun _ => True) u ts))
set_option maxRecDepth 100000 in
set_option maxHeartbeats 8000000 in
theorem cnext_calls (v : Int) (ts : List S70) (nx : Int) (hwf : ∀ t ∈ ts, TabWf t) (hv64 : -9223372036854775808 ≤ v ∧ v < 9223372036854775808) (A : Option Addr) (c : Nat) (w : World) (hG : GL w) (hc : ts.length ≤ c) (hC : k70.C w A ts.length ts) :
    Calls Tryd.prog 92 #[.agg #[.int .i64 v, .slice A ts.length c, .int .i64 nx]] w (NxtPost v ts nx w) := by
  obtain ⟨w0, hw0⟩ : ∃ w0, w0 = (w.alloc (.cells #[.int .i64 v, .slice A ts.length c, .int .i64 nx] 28)).alloc (.cells #[.int .i64 0, .slice none 0 0, .int .i64 0] 28) := ⟨_, rfl⟩
  have hb0 : Below w.heap.size w w0 := by rw [hw0]; exact below_alloc (below_alloc (Below.refl _ _) _) _
  have hB0 : CopB w w0 v nx (.slice A ts.length c) := by
    rw [hw0]
    refine ⟨blk_alloc (heap_alloc_new w _) _, ?_⟩
    have := heap_alloc_new (w.alloc (.cells #[.int .i64 v, .slice A ts.length c, .int .i64 nx] 28)) (.cells #[.int .i64 0, .slice none 0 0, .int .i64 0] 28)
    simpa using this
  have HM := Lib.hid (may_calls v ts nx hwf A c w0 (hG.of_below hb0) (Kd.C_below hC hb0))
  have HB0 := Aside0.mk hb0
  have HX0 := Aside0.mk hB0
  have HC := Aside0.mk hC
  have HW0 := Lib.hid hw0
  rw [hw0] at HM
  clear hb0 hB0 hC hG hwf hw0
  cases hsch : schB v ts nx with
  | false =>
    have HE := Lib.hid (show nxtE v ts nx = 3 by unfold nxtE; rw [if_pos hsch])
    rw [hsch] at HM
    clear hsch
    go_enter Tryd.func92, Tryd.ntmps92
    go_wp2_with fail
    refine HM.out.mono ?_
    rw [← HW0.out]
    rintro e w1 ⟨rfl, hb1⟩
    have hX1 := HX0.out.step hb1
    have HB1 := Aside0.mk (below_then HB0.out HB0.out.size hb1)
    have f0 := blk_frozen hX1.b1 0
    have f1 := blk_frozen hX1.b1 1
    have f2 := blk_frozen hX1.b1 2
    have c0 := blk_cell (j := 0) (v := .int .i64 0) hX1.b1 rfl
    have c1 := blk_cell (j := 1) (v := .slice none 0 0) hX1.b1 rfl
    have c2 := blk_cell (j := 2) (v := .int .i64 0) hX1.b1 rfl
    have hl : w.heap.size ≤ w.heap.size + 1 := by omega
    clear hb1 hX1
    go_wp2
    refine bodyPost_ret (v := .tuple #[.agg #[.int .i64 0, .slice none 0 0, .int .i64 0], .int .i64 3]) (by simp [results, Tryd.results92, go_sem, c0, c1, c2]) rfl ?_
    exact ⟨((HB1.out.setCell hl _).setCell hl _).setCell hl _, .inl ⟨by rw [HE.out]; decide, by rw [HE.out]⟩⟩
  | true =>
  rw [hsch] at HM
  have HS := Lib.hid hsch
  have hvv : 0 ≤ v ∧ v < 1099511627776 := by unfold schB at hsch; simp only [Bool.and_eq_true, decide_eq_true_eq] at hsch; exact ⟨hsch.1, hsch.2.1⟩
  clear hsch
  by_cases hv : 1099511627775 ≤ v
  · have HE := Lib.hid (show nxtE v ts nx = 4 by unfold nxtE; rw [if_neg (by rw [HS.out]; simp), if_pos hv])
    have hd : decide (1099511627776 ≤ v + 1) = true := decide_eq_true (by omega)
    go_enter Tryd.func92, Tryd.ntmps92
    go_wp2_with fail
    refine HM.out.mono ?_
    rw [← HW0.out]
    rintro e w1 ⟨rfl, hb1⟩
    have hX1 := HX0.out.step hb1
    have HB1 := Aside0.mk (below_then HB0.out HB0.out.size hb1)
    have x0 := blk_cell (j := 0) (v := .int .i64 v) hX1.b0 rfl
    have f0 := blk_frozen hX1.b1 0
    have f1 := blk_frozen hX1.b1 1
    have f2 := blk_frozen hX1.b1 2
    have c0 := blk_cell (j := 0) (v := .int .i64 0) hX1.b1 rfl
    have c1 := blk_cell (j := 1) (v := .slice none 0 0) hX1.b1 rfl
    have c2 := blk_cell (j := 2) (v := .int .i64 0) hX1.b1 rfl
    have hl : w.heap.size ≤ w.heap.size + 1 := by omega
    clear hb1 hX1
    go_wp2
    refine bodyPost_ret (v := .tuple #[.agg #[.int .i64 0, .slice none 0 0, .int .i64 0], .int .i64 4]) (by simp [results, Tryd.results92, go_sem, c0, c1, c2]) rfl ?_
    exact ⟨((HB1.out.setCell hl _).setCell hl _).setCell hl _, .inl ⟨by rw [HE.out]; decide, by rw [HE.out]⟩⟩
  · have HE := Lib.hid (show nxtE v ts nx = 0 by unfold nxtE; rw [if_neg (by rw [HS.out]; simp), if_neg hv])
    have hd : decide (1099511627776 ≤ v + 1) = false := decide_eq_false (by omega)
    have hvlt : v < 1099511627775 := by omega
    clear hv
    go_enter Tryd.func92, Tryd.ntmps92
    go_wp2_with fail
    refine HM.out.mono ?_
    rw [← HW0.out]
    rintro e w1 ⟨rfl, hb1⟩
    have hX1 := HX0.out.step hb1
    have HX1 := Aside0.mk hX1
    have HB1 := Aside0.mk (below_then HB0.out HB0.out.size hb1)
    have x0 := blk_cell (j := 0) (v := .int .i64 v) hX1.b0 rfl
    have x1 := blk_cell (j := 1) (v := .slice A ts.length c) hX1.b0 rfl
    have x2 := blk_cell (j := 2) (v := .int .i64 nx) hX1.b0 rfl
    clear hb1 hX1
    go_wp2_with fail
    refine (copied_calls v ts nx (schB_small HS.out) A c w1 hc (Kd.C_below HC.out HB1.out)).mono ?_
    rintro e w2 ⟨u, rfl, hS, hb2⟩
    have hX2 := HX1.out.step hb2
    have HX2 := Aside0.mk hX2
    have HB2 := Aside0.mk (below_then HB1.out HB1.out.size hb2)
    have hS' := Kd.S_lower hS HB1.out.size
    obtain ⟨Au, cu, hue⟩ := Kd.S_slice hS'
    subst hue
    have HS2 := Aside0.mk hS'
    have hlt2 : w.heap.size + 1 < w2.heap.size := lt_of_block hX2.b1
    have f0 := blk_frozen hX2.b1 0
    have f1 := blk_frozen hX2.b1 1
    have f2 := blk_frozen hX2.b1 2
    have c0 := blk_cell (j := 0) (v := .int .i64 0) hX2.b1 rfl
    have c1 := blk_cell (j := 1) (v := .slice none 0 0) hX2.b1 rfl
    have c2 := blk_cell (j := 2) (v := .int .i64 0) hX2.b1 rfl
    have hl : w.heap.size ≤ w.heap.size + 1 := by omega
    have hS4 := Kd.S_alloc (S_set3 (a := .int .i64 (v + 1)) (b := .slice Au ts.length cu) (c := .int .i64 nx) hS' hX2.b1) (.cells #[.int .i64 (v + 1), .slice Au ts.length cu, .int .i64 nx] 28)
    have hb4 := below_alloc (((HB2.out.setCell (p := ⟨w.heap.size + 1, 0, none⟩) hl (.int .i64 (v + 1))).setCell (p := ⟨w.heap.size + 1, 1, none⟩) hl (.slice Au ts.length cu)).setCell (p := ⟨w.heap.size + 1, 2, none⟩) hl (.int .i64 nx)) (.cells #[.int .i64 (v + 1), .slice Au ts.length cu, .int .i64 nx] 28)
    have hz := blk_alloc (blk_put (blk_put (blk_put hX2.b1 0 (.int .i64 (v + 1)) rfl) 1 (.slice Au ts.length cu) rfl) 2 (.int .i64 nx) rfl) (.cells #[.int .i64 (v + 1), .slice Au ts.length cu, .int .i64 nx] 28)
    have r0 := blk_cell (j := 0) (v := .int .i64 (v + 1)) hz rfl
    have r1 := blk_cell (j := 1) (v := .slice Au ts.length cu) hz rfl
    have r2 := blk_cell (j := 2) (v := .int .i64 nx) hz rfl
    have HR012 := Aside0.mk (And.intro r0 (And.intro r1 r2))
    have HFIN := Aside0.mk (And.intro hS4 hb4)
    clear hS hb2 hX2 hS' x0 x1 x2 hS4 hb4 hz r0 r1 r2
    go_wp2
    refine bodyPost_ret (v := .tuple #[.agg #[.int .i64 (v + 1), .slice Au ts.length cu, .int .i64 nx], .int .i64 0]) (by obtain ⟨r0, r1, r2⟩ := HR012.out; simp [results, Tryd.results92, go_sem, r0, r1, r2]) rfl ?_
    exact ⟨HFIN.out.2, .inr ⟨HE.out, _, rfl, HFIN.out.1⟩⟩
end Go.Proofs.YtjgomlcdmpcoaaaDoor.H
namespace Go.Proofs.YtjgomlcdmpcoaaaDoor.H
open Go.RowKit Go.Proofs.YtjgomlcdmpcoaaaDoorW.PrintWords Go.Proofs.YtjgomlcdmpcoaaaDoorW.PrintLast Go.Proofs.YtjgomlcdmpcoaaaDoorW.PrintMore
open Go.Proofs.YtjgomlcdmpcoaaaDoor.D Go.Proofs.YtjgomlcdmpcoaaaDoor
set_option linter.unusedVariables false
set_option linter.unusedSimpArgs false
theorem enters110 (args : Array Value) (w : World) : (callFunc 110 args).run Tryd.prog w = .ok (.enter 110 args) w := enters Tryd.func110 (by kernel_rfl) rfl args w
theorem enters106 (args : Array Value) (w : World) : (callFunc 106 args).run Tryd.prog w = .ok (.enter 106 args) w := enters Tryd.func106 (by kernel_rfl) rfl args w
set_option maxHeartbeats 1000000 in
theorem pred110 (n : ByteArray) (B : Nat) (w : World) (hB : B < w.heap.size) (hc : w.cell? ⟨B, 0, none⟩ = some (.string n)) : Pred k70 110 #[.pointer (some ⟨B, 0, none⟩)] (fun c => c.f1.toList == n.toList) w := by
  intro W x cs hb hK
  obtain ⟨A2, c2, A3, c3, rfl, l2, g2, l3, g3⟩ := k70_open hK
  have hc' := (hb.cell (p := ⟨B, 0, none⟩) hB).trans hc
  have hl : B < W.heap.size := Nat.lt_of_lt_of_le hB hb.size
  show Calls Tryd.prog 110 #[.agg #[.int .i64 x.f0, .string x.f1, .slice A2 x.f2.length c2, .slice A3 x.f3.length c3, .int .i64 x.f4], .pointer (some ⟨B, 0, none⟩)] W _
  have HB := Aside0.mk hb
  clear hb hc hK
  go_enter Tryd.func110, Tryd.ntmps110
  go_wp2
  go_ret
  exact ⟨rfl, below_then HB.out HB.out.size (below_alloc (Below.refl _ _) _)⟩
set_option maxHeartbeats 1000000 in
theorem pred106 (n : ByteArray) (B : Nat) (w : World) (hB : B < w.heap.size) (hc : w.cell? ⟨B, 1, none⟩ = some (.string n)) : Pred k70 106 #[.pointer (some ⟨B, 0, none⟩)] (fun c => c.f1.toList == n.toList) w := by
  intro W x cs hb hK
  obtain ⟨A2, c2, A3, c3, rfl, l2, g2, l3, g3⟩ := k70_open hK
  have hc' := (hb.cell (p := ⟨B, 1, none⟩) hB).trans hc
  have hl : B < W.heap.size := Nat.lt_of_lt_of_le hB hb.size
  show Calls Tryd.prog 106 #[.agg #[.int .i64 x.f0, .string x.f1, .slice A2 x.f2.length c2, .slice A3 x.f3.length c3, .int .i64 x.f4], .pointer (some ⟨B, 0, none⟩)] W _
  have HB := Aside0.mk hb
  clear hb hc hK
  go_enter Tryd.func106, Tryd.ntmps106
  go_wp2
  go_ret
  exact ⟨rfl, below_then HB.out HB.out.size (below_alloc (Below.refl _ _) _)⟩
theorem tName_same (n : ByteArray) (ts : List S70) : idxL (fun c : S70 => c.f1.toList == n.toList) ts 0 = idxL (tName n) ts 0 :=
  idxL_same _ _ (fun c => by unfold tName; exact (Bool.beq_eq_decide_eq _ _)) ts 0
theorem S_farB {W : World} {B b j : Nat} {u v : Value} {ts : List S70} (h : Kd.S k70 70 W B (fun _ => True) v ts) (hb : b < B) : Kd.S k70 70 (W.setCell ⟨b, j, none⟩ u) B (fun _ => True) v ts :=
  Kd.S_mono (Kd.S_far (p := ⟨b, j, none⟩) (Kd.S_bound h) (fun k hk e => by have h1 := hk.2.1; have e' : k = b := e; omega) u) (fun _ _ => trivial)
theorem cell_farB {W : World} {b g j q : Nat} {u : Value} (h : g ≠ b) : (W.setCell ⟨b, j, none⟩ u).cell? ⟨g, q, none⟩ = W.cell? ⟨g, q, none⟩ := by
  simp [World.cell?, Below.heap_setCell W ⟨b, j, none⟩ u g h]
def TabB (w W : World) (bx : Array Value) (n : ByteArray) : Prop := W.heap[w.heap.size]? = some (.cells bx 28 (0, 0)) ∧ W.heap[w.heap.size + 1]? = some (.cells #[.string n] 9 (0, 0)) ∧ W.heap[w.heap.size + 2]? = some (.cells #[.int .i64 0, .string ⟨#[]⟩, .slice none 0 0, .slice none 0 0, .int .i64 0] 70 (0, 0))
theorem TabB.step {w W W' : World} {bx : Array Value} {n : ByteArray} (h : TabB w W bx n) (hb : Below W.heap.size W W') : TabB w W' bx n := ⟨blk_below h.1 hb, blk_below h.2.1 hb, blk_below h.2.2 hb⟩
def TabP (v : Int) (ts : List S70) (nx : Int) (n : ByteArray) : Int := if schB v ts nx = false then -1 else idxL (tName n) ts 0
def TabPost (v : Int) (ts : List S70) (nx : Int) (n : ByteArray) (w : World) (e : Ending) (w' : World) : Prop :=
  Below w.heap.size w w' ∧ ((TabP v ts nx n = -1 ∧ e = .returned (.tuple #[.agg #[.int .i64 0, .string ⟨#[]⟩, .slice none 0 0, .slice none 0 0, .int .i64 0], .bool false])) ∨
    (∃ k : Nat, ∃ h : k < ts.length, TabP v ts nx n = (k : Int) ∧ ∃ cs : List Value, e = .returned (.tuple #[.agg cs.toArray, .bool true]) ∧ k70.K w' ts[k] cs))
set_option maxRecDepth 100000 in
set_option maxHeartbeats 8000000 in
theorem tableC_calls (v : Int) (ts : List S70) (nx : Int) (n : ByteArray) (hwf : ∀ t ∈ ts, TabWf t) (A : Option Addr) (c : Nat) (w : World) (hG : GL w) (hc : ts.length ≤ c) (hC : k70.C w A ts.length ts) :
    Calls Tryd.prog 54 #[.agg #[.int .i64 v, .slice A ts.length c, .int .i64 nx], .string n] w (TabPost v ts nx n w) := by
  obtain ⟨w0, hw0⟩ : ∃ w0, w0 = ((w.alloc (.cells #[.int .i64 v, .slice A ts.length c, .int .i64 nx] 28)).alloc (.cells #[.string n] 9)).alloc (.cells #[.int .i64 0, .string ⟨#[]⟩, .slice none 0 0, .slice none 0 0, .int .i64 0] 70) := ⟨_, rfl⟩
  have hb0 : Below w.heap.size w w0 := by rw [hw0]; exact below_alloc (below_alloc (below_alloc (Below.refl _ _) _) _) _
  have hB0 : TabB w w0 #[.int .i64 v, .slice A ts.length c, .int .i64 nx] n := by
    rw [hw0]
    refine ⟨blk_alloc (blk_alloc (heap_alloc_new w _) _) _, ?_, ?_⟩
    · have := blk_alloc (heap_alloc_new (w.alloc (.cells #[.int .i64 v, .slice A ts.length c, .int .i64 nx] 28)) (.cells #[.string n] 9)) (.cells #[.int .i64 0, .string ⟨#[]⟩, .slice none 0 0, .slice none 0 0, .int .i64 0] 70)
      simpa using this
    · have := heap_alloc_new ((w.alloc (.cells #[.int .i64 v, .slice A ts.length c, .int .i64 nx] 28)).alloc (.cells #[.string n] 9)) (.cells #[.int .i64 0, .string ⟨#[]⟩, .slice none 0 0, .slice none 0 0, .int .i64 0] 70)
      simpa using this
  have HM := Lib.hid (may_calls v ts nx hwf A c w0 (hG.of_below hb0) (Kd.C_below hC hb0))
  have HB0 := Aside0.mk hb0
  have HX0 := Aside0.mk hB0
  have HC := Aside0.mk hC
  have HW0 := Lib.hid hw0
  rw [hw0] at HM
  clear hb0 hB0 hC hG hwf hw0
  cases hsch : schB v ts nx with
  | false =>
    have HE := Lib.hid (show TabP v ts nx n = -1 by unfold TabP; rw [if_pos hsch])
    rw [hsch] at HM
    clear hsch
    go_enter Tryd.func54, Tryd.ntmps54
    go_wp2_with fail
    refine HM.out.mono ?_
    rw [← HW0.out]
    rintro e w1 ⟨rfl, hb1⟩
    have hX1 := HX0.out.step hb1
    have HB1 := Aside0.mk (below_then HB0.out HB0.out.size hb1)
    have f0 := blk_frozen hX1.2.2 0
    have c0 := blk_cell (j := 0) (v := .int .i64 0) hX1.2.2 rfl
    have f1 := blk_frozen hX1.2.2 1
    have c1 := blk_cell (j := 1) (v := .string ⟨#[]⟩) hX1.2.2 rfl
    have f2 := blk_frozen hX1.2.2 2
    have c2 := blk_cell (j := 2) (v := .slice none 0 0) hX1.2.2 rfl
    have f3 := blk_frozen hX1.2.2 3
    have c3 := blk_cell (j := 3) (v := .slice none 0 0) hX1.2.2 rfl
    have f4 := blk_frozen hX1.2.2 4
    have c4 := blk_cell (j := 4) (v := .int .i64 0) hX1.2.2 rfl
    have hl : w.heap.size ≤ w.heap.size + 1 + 1 := by omega
    clear hb1 hX1
    go_wp2
    refine bodyPost_ret (v := .tuple #[.agg #[.int .i64 0, .string ⟨#[]⟩, .slice none 0 0, .slice none 0 0, .int .i64 0], .bool false]) (by simp [results, Tryd.results54, go_sem, c0, c1, c2, c3, c4]) rfl ?_
    exact ⟨((((HB1.out.setCell hl _).setCell hl _).setCell hl _).setCell hl _).setCell hl _, .inl ⟨HE.out, rfl⟩⟩
  | true =>
  rw [hsch] at HM
  have HS := Lib.hid hsch
  have HE := Lib.hid (show TabP v ts nx n = idxL (tName n) ts 0 by unfold TabP; rw [if_neg (by rw [hsch]; simp)])
  clear hsch
  go_enter Tryd.func54, Tryd.ntmps54
  go_wp2_with fail
  refine HM.out.mono ?_
  rw [← HW0.out]
  rintro e w1 ⟨rfl, hb1⟩
  have hX1 := HX0.out.step hb1
  have HX1 := Aside0.mk hX1
  have HB1 := Aside0.mk (below_then HB0.out HB0.out.size hb1)
  have x0 := blk_cell (j := 0) (v := .int .i64 v) hX1.1 rfl
  have x1 := blk_cell (j := 1) (v := .slice A ts.length c) hX1.1 rfl
  have x2 := blk_cell (j := 2) (v := .int .i64 nx) hX1.1 rfl
  clear hb1 hX1
  go_wp2_with fail
  refine (copied_calls v ts nx (schB_small HS.out) A c w1 hc (Kd.C_below HC.out HB1.out)).mono ?_
  rintro e w2 ⟨u, rfl, hS, hb2⟩
  obtain ⟨Au, cu, rfl, lcu, hCu⟩ := Kd.S_reads hS
  have hX2 := HX1.out.step hb2
  have HB2 := Aside0.mk (below_then HB1.out HB1.out.size hb2)
  have hba := below_alloc (Below.refl _ w2) (.cells #[.int .i64 v, .slice Au ts.length cu, .int .i64 nx] 28)
  have hX3 := hX2.step hba
  have HX3 := Aside0.mk hX3
  have HB3 := Aside0.mk (below_then HB2.out HB2.out.size hba)
  have hC3 := Kd.C_below hCu hba
  have HC3 := Aside0.mk hC3
  have HSS3 := Aside0.mk (Kd.S_below hS hba)
  have hlt1 : w.heap.size + 2 < w1.heap.size := lt_of_block HX1.out.2.2
  have HQ := Lib.hid (idx70 110 #[.pointer (some ⟨w.heap.size + 1, 0, none⟩)] enters110 (fun x => x.f1.toList == n.toList) Au cu ts (w2.alloc (.cells #[.int .i64 v, .slice Au ts.length cu, .int .i64 nx] 28)) hC3 (pred110 n (w.heap.size + 1) _ (lt_of_block hX3.2.1) (blk_cell hX3.2.1 rfl)))
  rw [tName_same] at HQ
  have HY3 := Aside0.mk (heap_alloc_new w2 (.cells #[.int .i64 v, .slice Au ts.length cu, .int .i64 nx] 28))
  have hia := idxL_at (tName n) ts
  obtain ⟨ix, hix⟩ : ∃ ix, idxL (tName n) ts 0 = ix := ⟨_, rfl⟩
  rw [hix] at HQ HE hia
  have hmf : ∀ (fn : Fn) (first cap : Array Value) (w : World), (Instr.makeFunc fn first cap).run Tryd.prog w = .ok (.func fn first cap) w := fun _ _ _ _ => rfl
  clear hS hb2 hX2 hba hX3 hC3 hCu hix x0 x1 x2
  go_wp2_with fail
  refine HQ.out.mono ?_
  rintro e w4 ⟨rfl, hb4⟩
  have hX1 := HX3.out.step hb4
  have HB4 := Aside0.mk (below_then HB3.out HB3.out.size hb4)
  have HC4 := Aside0.mk (Kd.C_below HC3.out hb4)
  have hy4 := blk_below HY3.out hb4
  have y1 := blk_cell (j := 1) (v := .slice Au ts.length cu) hy4 rfl
  have f0 := blk_frozen hX1.2.2 0
  have c0 := blk_cell (j := 0) (v := .int .i64 0) hX1.2.2 rfl
  have f1 := blk_frozen hX1.2.2 1
  have c1 := blk_cell (j := 1) (v := .string ⟨#[]⟩) hX1.2.2 rfl
  have f2 := blk_frozen hX1.2.2 2
  have c2 := blk_cell (j := 2) (v := .slice none 0 0) hX1.2.2 rfl
  have f3 := blk_frozen hX1.2.2 3
  have c3 := blk_cell (j := 3) (v := .slice none 0 0) hX1.2.2 rfl
  have f4 := blk_frozen hX1.2.2 4
  have c4 := blk_cell (j := 4) (v := .int .i64 0) hX1.2.2 rfl
  have hl : w.heap.size ≤ w.heap.size + 1 + 1 := by omega
  rcases hia with rfl | ⟨k, hk, rfl, -⟩
  · clear hb4 hX1 hy4
    go_wp2
    refine bodyPost_ret (v := .tuple #[.agg #[.int .i64 0, .string ⟨#[]⟩, .slice none 0 0, .slice none 0 0, .int .i64 0], .bool false]) (by simp [results, Tryd.results54, go_sem, c0, c1, c2, c3, c4]) rfl ?_
    exact ⟨((((HB4.out.setCell hl _).setCell hl _).setCell hl _).setCell hl _).setCell hl _, .inl ⟨HE.out, rfl⟩⟩
  · have hk0 : (0 : Int) ≤ (k : Int) := by omega
    have hkl : (k : Int) < (ts.length : Int) := by omega
    have hS4 := Kd.S_below HSS3.out hb4
    obtain ⟨g, cap', hgv, hgb, -⟩ := Kd.S_form hS4 (by omega)
    obtain rfl : Au = some ⟨g, 0, none⟩ := by injection hgv
    have hgne : g ≠ w.heap.size + 2 := by omega
    obtain ⟨ad, A2, c2', A3, c3', eA, t0, t1, t2, t3, t4, l2, g2, l3, g3⟩ := at_T70 HC4.out (k : Int) (by omega) (by omega)
    rw [rd70 _ _ hk] at t0 t1 t2 t3 t4 l2 g2 l3 g3
    simp only [Int.toNat_natCast] at t0 t1 t2 t3 t4
    obtain rfl : ad = ⟨g, 0, none⟩ := by injection eA with e; exact e.symm
    rw [add_plain] at t0 t1 t2 t3 t4
    have hb5 := (((((HB4.out.setCell (p := ⟨w.heap.size + 2, 0, none⟩) hl (.int .i64 ts[k].f0)).setCell (p := ⟨w.heap.size + 2, 1, none⟩) hl (.string ts[k].f1)).setCell (p := ⟨w.heap.size + 2, 2, none⟩) hl (.slice A2 ts[k].f2.length c2')).setCell (p := ⟨w.heap.size + 2, 3, none⟩) hl (.slice A3 ts[k].f3.length c3')).setCell (p := ⟨w.heap.size + 2, 4, none⟩) hl (.int .i64 ts[k].f4))
    have hS5 := S_farB (j := 4) (u := .int .i64 ts[k].f4) (S_farB (j := 3) (u := .slice A3 ts[k].f3.length c3') (S_farB (j := 2) (u := .slice A2 ts[k].f2.length c2') (S_farB (j := 1) (u := .string ts[k].f1) (S_farB (j := 0) (u := .int .i64 ts[k].f0) hS4 hlt1) hlt1) hlt1) hlt1) hlt1
    have hK5 : k70.K ((((((w4.setCell ⟨w.heap.size + 2, 0, none⟩ (.int .i64 ts[k].f0)).setCell ⟨w.heap.size + 2, 1, none⟩ (.string ts[k].f1)).setCell ⟨w.heap.size + 2, 2, none⟩ (.slice A2 ts[k].f2.length c2')).setCell ⟨w.heap.size + 2, 3, none⟩ (.slice A3 ts[k].f3.length c3')).setCell ⟨w.heap.size + 2, 4, none⟩ (.int .i64 ts[k].f4))) ts[k] [.int .i64 ts[k].f0, .string ts[k].f1, .slice A2 ts[k].f2.length c2', .slice A3 ts[k].f3.length c3', .int .i64 ts[k].f4] := by
      obtain ⟨ad', B2, d2, B3, d3, eA', s0, s1, s2, s3, s4, m2, n2, m3, n3⟩ := at_T70 (Kd.S_reads' hS5).2.2 (k : Int) (by omega) (by omega)
      rw [rd70 _ _ hk] at s0 s1 s2 s3 s4 m2 n2 m3 n3
      simp only [Int.toNat_natCast] at s0 s1 s2 s3 s4
      obtain rfl : ad' = ⟨g, 0, none⟩ := by injection eA' with e; exact e.symm
      rw [add_plain] at s2 s3
      rw [cell_farB hgne, cell_farB hgne, cell_farB hgne, cell_farB hgne, cell_farB hgne, t2] at s2
      rw [cell_farB hgne, cell_farB hgne, cell_farB hgne, cell_farB hgne, cell_farB hgne, t3] at s3
      injection s2 with s2
      injection s2 with e1 _ e2
      injection s3 with s3
      injection s3 with e3 _ e4
      subst e1 e2 e3 e4
      exact k70_mk _ ts[k] m2 n2 m3 n3
    have HFIN := Aside0.mk (And.intro hb5 hK5)
    have HX4 := Aside0.mk hX1.2.2
    clear hb4 hX1 hy4 g2 g3 hS4 hb5 hS5 hK5 hgv
    go_wp2
    refine bodyPost_ret (v := .tuple #[.agg #[.int .i64 ts[k].f0, .string ts[k].f1, .slice A2 ts[k].f2.length c2', .slice A3 ts[k].f3.length c3', .int .i64 ts[k].f4], .bool true]) (by simp [results, Tryd.results54, go_sem, c0, c1, c2, c3, c4]) rfl ?_
    exact ⟨HFIN.out.1, .inr ⟨k, hk, HE.out, _, rfl, HFIN.out.2⟩⟩
end Go.Proofs.YtjgomlcdmpcoaaaDoor.H
