/- Own texts of this session, packed by its program wip/pp/pack.py: lemmas and walks of functions. -/
import Derived.Test.YtjgomlcdmpcoaaaDoorKCC16
import Derived.Test.YtjgomlcdmpcoaaaDoorKCC17
namespace Go.Proofs.YtjgomlcdmpcoaaaDoor.H
open Go.RowKit Go.Proofs.YtjgomlcdmpcoaaaDoorW.PrintWords Go.Proofs.YtjgomlcdmpcoaaaDoorW.PrintLast Go.Proofs.YtjgomlcdmpcoaaaDoorW.PrintMore
open Go.Proofs.YtjgomlcdmpcoaaaDoor.D Go.Proofs.YtjgomlcdmpcoaaaDoor
set_option linter.unusedVariables false
set_option linter.unusedSimpArgs false
def Pred1 {α : Type} (enc : α → Value) (g : Nat) (lb : Array Value) (p : α → Bool) (w : World) : Prop :=
  ∀ (W : World) (x : α), Below w.heap.size w W → Calls Tryd.prog g (#[enc x] ++ lb) W fun e w' => e = .returned (.bool (p x)) ∧ Below w.heap.size w w'
set_option maxHeartbeats 4000000 in
set_option maxRecDepth 100000 in
theorem idx140 (g : Nat) (lb : Array Value) (eg : ∀ args w, (callFunc g args).run Tryd.prog w = .ok (.enter g args) w) (p : ByteArray → Bool) (A : Option Addr) (c : Nat) (xs : List ByteArray) (w : World)
    (hA : Kd.string.C w A xs.length xs) (hp : Pred1 Value.string g lb p w) :
    Calls Tryd.prog 140 #[.slice A xs.length c, .func (.func g) #[] lb] w fun e w' => e = .returned (.int .i64 (idxL p xs 0)) ∧ Below w.heap.size w w' := by
  have HA := Lib.hid hA
  have hbig := hA.2.1
  have HP := Lib.hid hp
  have HE := Lib.hid eg
  clear hA hp eg
  go_enter Tryd.func140, Tryd.ntmps140
  go_wp2
  go_loopg [5, 8] xs.length (fun gg _ s8 wr => ∃ kk : Nat, kk ≤ xs.length ∧ xs.length - kk ≤ gg ∧ s8 = .int .i64 kk ∧ Aside0 (Below w.heap.size w wr) ∧ Aside0 (idxL p xs 0 = idxL p (xs.drop kk) kk))
  case atStart => exact ⟨0, Nat.zero_le _, by omega, rfl, ⟨Below.refl _ w⟩, ⟨rfl⟩⟩
  case round =>
    obtain ⟨kk, hkk, hg, rfl, BW, hI⟩ := hrel
    by_cases hlt : kk < xs.length
    · have hltz : (kk : Int) < (xs.length : Int) := by omega
      have hd : xs.drop kk = xs[kk] :: xs.drop (kk + 1) := List.drop_eq_getElem_cons hlt
      have hC := Kd.C_below HA.out BW.out
      obtain ⟨ad, eA, h0⟩ := at_str hC kk hlt
      have hcall := HP.out wr xs[kk] BW.out
      generalize xs[kk] = x at hd hcall h0
      rw [hd] at hI
      cases eA
      have HI := Lib.hid hI
      clear hI hd
      cases hq : p x with
      | true =>
        rw [hq] at hcall
        have HQ := Lib.hid hq
        clear hq
        have HC := Lib.hid hcall
        clear hcall
        go_wp2_with fail
        rw [HE.out, Oper.upon_enter]
        refine HC.out.mono ?_
        rintro e w' ⟨rfl, hb'⟩
        go_wp2
        go_ret
        refine ⟨?_, hb'⟩
        rw [HI.out.out]
        simp [idxL, HQ.out]
      | false =>
        rw [hq] at hcall
        have HQ := Lib.hid hq
        clear hq
        have HC := Lib.hid hcall
        clear hcall
        go_wp2_with fail
        rw [HE.out, Oper.upon_enter]
        refine HC.out.mono ?_
        rintro e w' ⟨rfl, hb'⟩
        go_wp2
        go_roundg (xs.length - (kk + 1))
        case measure => omega
        case rel =>
          refine ⟨kk + 1, by omega, by omega, by go_num, ⟨hb'⟩, ⟨?_⟩⟩
          rw [HI.out.out]
          simp [idxL, HQ.out]
    · have hltz : ¬ (kk : Int) < (xs.length : Int) := by omega
      have hd : xs.drop kk = [] := List.drop_eq_nil_of_le (by omega)
      rw [hd] at hI
      have HI := Lib.hid hI
      clear hI hd
      go_wp2
      go_ret
      refine ⟨?_, BW.out⟩
      rw [HI.out.out]
      rfl
set_option maxHeartbeats 1000000 in
set_option maxRecDepth 100000 in
theorem any94 (g : Nat) (lb : Array Value) (eg : ∀ args w, (callFunc g args).run Tryd.prog w = .ok (.enter g args) w) (p : ByteArray → Bool) (A : Option Addr) (c : Nat) (xs : List ByteArray) (w : World)
    (hA : Kd.string.C w A xs.length xs) (hp : Pred1 Value.string g lb p w) :
    Calls Tryd.prog 94 #[.slice A xs.length c, .func (.func g) #[] lb] w fun e w' => e = .returned (.bool (xs.any p)) ∧ Below w.heap.size w w' := by
  have hc := Lib.hid (idx140 g lb eg p A c xs w hA hp)
  have hi := Lib.hid (idxL_any p xs 0)
  clear hA hp eg
  go_enter Tryd.func94, Tryd.ntmps94
  go_wp2_with (go_at_call 140; refine hc.out.mono ?_; rintro e w' ⟨rfl, hb⟩)
  go_ret
  exact ⟨by rw [← hi.out]; rfl, hb⟩
set_option maxHeartbeats 4000000 in
set_option maxRecDepth 100000 in
theorem idx141 (g : Nat) (lb : Array Value) (eg : ∀ args w, (callFunc g args).run Tryd.prog w = .ok (.enter g args) w) (p : Int → Bool) (A : Option Addr) (c : Nat) (xs : List Int) (w : World)
    (hA : (Kd.int .i64).C w A xs.length xs) (hp : Pred1 (Value.int .i64) g lb p w) :
    Calls Tryd.prog 141 #[.slice A xs.length c, .func (.func g) #[] lb] w fun e w' => e = .returned (.int .i64 (idxL p xs 0)) ∧ Below w.heap.size w w' := by
  have HA := Lib.hid hA
  have hbig := hA.2.1
  have HP := Lib.hid hp
  have HE := Lib.hid eg
  clear hA hp eg
  go_enter Tryd.func141, Tryd.ntmps141
  go_wp2
  go_loopg [5, 8] xs.length (fun gg _ s8 wr => ∃ kk : Nat, kk ≤ xs.length ∧ xs.length - kk ≤ gg ∧ s8 = .int .i64 kk ∧ Aside0 (Below w.heap.size w wr) ∧ Aside0 (idxL p xs 0 = idxL p (xs.drop kk) kk))
  case atStart => exact ⟨0, Nat.zero_le _, by omega, rfl, ⟨Below.refl _ w⟩, ⟨rfl⟩⟩
  case round =>
    obtain ⟨kk, hkk, hg, rfl, BW, hI⟩ := hrel
    by_cases hlt : kk < xs.length
    · have hltz : (kk : Int) < (xs.length : Int) := by omega
      have hd : xs.drop kk = xs[kk] :: xs.drop (kk + 1) := List.drop_eq_getElem_cons hlt
      have hC := Kd.C_below HA.out BW.out
      obtain ⟨ad, eA, h0⟩ := at_int hC kk hlt
      have hcall := HP.out wr xs[kk] BW.out
      generalize xs[kk] = x at hd hcall h0
      rw [hd] at hI
      cases eA
      have HI := Lib.hid hI
      clear hI hd
      cases hq : p x with
      | true =>
        rw [hq] at hcall
        have HQ := Lib.hid hq
        clear hq
        have HC := Lib.hid hcall
        clear hcall
        go_wp2_with fail
        rw [HE.out, Oper.upon_enter]
        refine HC.out.mono ?_
        rintro e w' ⟨rfl, hb'⟩
        go_wp2
        go_ret
        refine ⟨?_, hb'⟩
        rw [HI.out.out]
        simp [idxL, HQ.out]
      | false =>
        rw [hq] at hcall
        have HQ := Lib.hid hq
        clear hq
        have HC := Lib.hid hcall
        clear hcall
        go_wp2_with fail
        rw [HE.out, Oper.upon_enter]
        refine HC.out.mono ?_
        rintro e w' ⟨rfl, hb'⟩
        go_wp2
        go_roundg (xs.length - (kk + 1))
        case measure => omega
        case rel =>
          refine ⟨kk + 1, by omega, by omega, by go_num, ⟨hb'⟩, ⟨?_⟩⟩
          rw [HI.out.out]
          simp [idxL, HQ.out]
    · have hltz : ¬ (kk : Int) < (xs.length : Int) := by omega
      have hd : xs.drop kk = [] := List.drop_eq_nil_of_le (by omega)
      rw [hd] at hI
      have HI := Lib.hid hI
      clear hI hd
      go_wp2
      go_ret
      refine ⟨?_, BW.out⟩
      rw [HI.out.out]
      rfl
set_option maxHeartbeats 1000000 in
set_option maxRecDepth 100000 in
theorem any95 (g : Nat) (lb : Array Value) (eg : ∀ args w, (callFunc g args).run Tryd.prog w = .ok (.enter g args) w) (p : Int → Bool) (A : Option Addr) (c : Nat) (xs : List Int) (w : World)
    (hA : (Kd.int .i64).C w A xs.length xs) (hp : Pred1 (Value.int .i64) g lb p w) :
    Calls Tryd.prog 95 #[.slice A xs.length c, .func (.func g) #[] lb] w fun e w' => e = .returned (.bool (xs.any p)) ∧ Below w.heap.size w w' := by
  have hc := Lib.hid (idx141 g lb eg p A c xs w hA hp)
  have hi := Lib.hid (idxL_any p xs 0)
  clear hA hp eg
  go_enter Tryd.func95, Tryd.ntmps95
  go_wp2_with (go_at_call 141; refine hc.out.mono ?_; rintro e w' ⟨rfl, hb⟩)
  go_ret
  exact ⟨by rw [← hi.out]; rfl, hb⟩
set_option maxHeartbeats 1000000 in
set_option maxRecDepth 100000 in
theorem any172 (g : Nat) (lb : Array Value) (eg : ∀ args w, (callFunc g args).run Tryd.prog w = .ok (.enter g args) w) (p : S98 → Bool) (A : Option Addr) (c : Nat) (xs : List S98) (w : World)
    (hA : k98.C w A xs.length xs) (hp : Pred k98 g lb p w) :
    Calls Tryd.prog 172 #[.slice A xs.length c, .func (.func g) #[] lb] w fun e w' => e = .returned (.bool (xs.any p)) ∧ Below w.heap.size w w' := by
  have hc := Lib.hid (idx98 g lb eg p A c xs w hA hp)
  have hi := Lib.hid (idxL_any p xs 0)
  clear hA hp eg
  go_enter Tryd.func172, Tryd.ntmps172
  go_wp2_with (go_at_call 168; refine hc.out.mono ?_; rintro e w' ⟨rfl, hb⟩)
  go_ret
  exact ⟨by rw [← hi.out]; rfl, hb⟩
def cNamed (n : ByteArray) (sh : Bool) (c : S75) : Bool := decide (c.f1.toList = n.toList) && (!sh || decide (c.f3 = 4))
def xNamed (n : ByteArray) (sh : Bool) (x : S98) : Bool := decide (x.f1.toList = n.toList) && (!sh || decide (x.f4 = 4))
set_option maxHeartbeats 2000000 in
theorem pred169 (n : ByteArray) (sh : Bool) (B1 B2 : Nat) (w : World) (h1 : B1 < w.heap.size) (h2 : B2 < w.heap.size) (hc1 : w.cell? ⟨B1, 0, none⟩ = some (.string n)) (hc2 : w.cell? ⟨B2, 0, none⟩ = some (.bool sh)) :
    Pred k98 169 #[.pointer (some ⟨B1, 0, none⟩), .pointer (some ⟨B2, 0, none⟩)] (xNamed n sh) w := by
  intro W x cs hb hK
  obtain ⟨A2, c2, rfl, l2, g2⟩ := k98_open hK
  have hc1' := (hb.cell (p := ⟨B1, 0, none⟩) h1).trans hc1
  have hc2' := (hb.cell (p := ⟨B2, 0, none⟩) h2).trans hc2
  have hl1 : B1 < W.heap.size := Nat.lt_of_lt_of_le h1 hb.size
  have hl2 : B2 < W.heap.size := Nat.lt_of_lt_of_le h2 hb.size
  show Calls Tryd.prog 169 #[.agg #[.int .i64 x.f0, .string x.f1, .slice A2 x.f2.length c2, .bool x.f3, .int .i64 x.f4], .pointer (some ⟨B1, 0, none⟩), .pointer (some ⟨B2, 0, none⟩)] W _
  have HB := Aside0.mk hb
  obtain ⟨r, hr⟩ : ∃ r, xNamed n sh x = r := ⟨_, rfl⟩
  rw [hr]
  have HR := Lib.hid hr
  clear hb hc1 hc2 hK hr
  by_cases hn : x.f1.toList = n.toList
  · have hq : (x.f1.toList == n.toList) = true := by simpa using hn
    have HR2 := Lib.hid (show (!sh || decide (x.f4 = 4)) = r by rw [← HR.out]; unfold xNamed; rw [decide_eq_true hn, Bool.true_and])
    clear hn
    cases sh with
    | false =>
      obtain rfl : true = r := HR2.out
      go_enter Tryd.func169, Tryd.ntmps169
      go_wp2
      go_ret
      exact ⟨rfl, below_then HB.out HB.out.size (below_alloc (Below.refl _ _) _)⟩
    | true =>
      obtain ⟨st, hst⟩ : ∃ st, x.f4 = st := ⟨_, rfl⟩
      rw [hst] at HR2 ⊢
      by_cases h4 : st = 4
      · subst h4
        obtain rfl : true = r := HR2.out
        go_enter Tryd.func169, Tryd.ntmps169
        go_wp2
        go_ret
        exact ⟨rfl, below_then HB.out HB.out.size (below_alloc (Below.refl _ _) _)⟩
      · obtain rfl : false = r := by rw [← HR2.out, decide_eq_false h4]; rfl
        have h4' : (st == 4) = false := by simpa using h4
        clear h4
        go_enter Tryd.func169, Tryd.ntmps169
        go_wp2
        go_ret
        exact ⟨rfl, below_then HB.out HB.out.size (below_alloc (Below.refl _ _) _)⟩
  · have hq : (x.f1.toList == n.toList) = false := by simpa using hn
    obtain rfl : false = r := by rw [← HR.out]; unfold xNamed; rw [decide_eq_false hn, Bool.false_and]
    clear hn
    go_enter Tryd.func169, Tryd.ntmps169
    go_wp2
    all_goals
      go_ret
      exact ⟨rfl, below_then HB.out HB.out.size (below_alloc (Below.refl _ _) _)⟩
theorem enters169 (args : Array Value) (w : World) : (callFunc 169 args).run Tryd.prog w = .ok (.enter 169 args) w := enters Tryd.func169 (by kernel_rfl) rfl args w
set_option maxHeartbeats 2000000 in
theorem pred170 (n : ByteArray) (sh : Bool) (B1 B2 : Nat) (w : World) (h1 : B1 < w.heap.size) (h2 : B2 < w.heap.size) (hc1 : w.cell? ⟨B1, 0, none⟩ = some (.string n)) (hc2 : w.cell? ⟨B2, 0, none⟩ = some (.bool sh)) :
    Pred k75 170 #[.pointer (some ⟨B1, 0, none⟩), .pointer (some ⟨B2, 0, none⟩)] (cNamed n sh) w := by
  intro W x cs hb hK
  obtain rfl := k75_open hK
  have hc1' := (hb.cell (p := ⟨B1, 0, none⟩) h1).trans hc1
  have hc2' := (hb.cell (p := ⟨B2, 0, none⟩) h2).trans hc2
  have hl1 : B1 < W.heap.size := Nat.lt_of_lt_of_le h1 hb.size
  have hl2 : B2 < W.heap.size := Nat.lt_of_lt_of_le h2 hb.size
  show Calls Tryd.prog 170 #[.agg #[.int .i64 x.f0, .string x.f1, .int .i64 x.f2, .int .i64 x.f3, .int .i64 x.f4, .int .i64 x.f5.f0, .int .i64 x.f5.f1, .int .u64 x.f5.f2, .string x.f5.f3], .pointer (some ⟨B1, 0, none⟩), .pointer (some ⟨B2, 0, none⟩)] W _
  have HB := Aside0.mk hb
  obtain ⟨r, hr⟩ : ∃ r, cNamed n sh x = r := ⟨_, rfl⟩
  rw [hr]
  have HR := Lib.hid hr
  clear hb hc1 hc2 hK hr
  by_cases hn : x.f1.toList = n.toList
  · have hq : (x.f1.toList == n.toList) = true := by simpa using hn
    have HR2 := Lib.hid (show (!sh || decide (x.f3 = 4)) = r by rw [← HR.out]; unfold cNamed; rw [decide_eq_true hn, Bool.true_and])
    clear hn
    cases sh with
    | false =>
      obtain rfl : true = r := HR2.out
      go_enter Tryd.func170, Tryd.ntmps170
      go_wp2
      go_ret
      exact ⟨rfl, below_then HB.out HB.out.size (below_alloc (Below.refl _ _) _)⟩
    | true =>
      obtain ⟨st, hst⟩ : ∃ st, x.f3 = st := ⟨_, rfl⟩
      rw [hst] at HR2 ⊢
      by_cases h4 : st = 4
      · subst h4
        obtain rfl : true = r := HR2.out
        go_enter Tryd.func170, Tryd.ntmps170
        go_wp2
        go_ret
        exact ⟨rfl, below_then HB.out HB.out.size (below_alloc (Below.refl _ _) _)⟩
      · obtain rfl : false = r := by rw [← HR2.out, decide_eq_false h4]; rfl
        have h4' : (st == 4) = false := by simpa using h4
        clear h4
        go_enter Tryd.func170, Tryd.ntmps170
        go_wp2
        go_ret
        exact ⟨rfl, below_then HB.out HB.out.size (below_alloc (Below.refl _ _) _)⟩
  · have hq : (x.f1.toList == n.toList) = false := by simpa using hn
    obtain rfl : false = r := by rw [← HR.out]; unfold cNamed; rw [decide_eq_false hn, Bool.false_and]
    clear hn
    go_enter Tryd.func170, Tryd.ntmps170
    go_wp2
    all_goals
      go_ret
      exact ⟨rfl, below_then HB.out HB.out.size (below_alloc (Below.refl _ _) _)⟩
theorem enters170 (args : Array Value) (w : World) : (callFunc 170 args).run Tryd.prog w = .ok (.enter 170 args) w := enters Tryd.func170 (by kernel_rfl) rfl args w
theorem enters173 (args : Array Value) (w : World) : (callFunc 173 args).run Tryd.prog w = .ok (.enter 173 args) w := enters Tryd.func173 (by kernel_rfl) rfl args w
theorem enters93 (args : Array Value) (w : World) : (callFunc 93 args).run Tryd.prog w = .ok (.enter 93 args) w := enters Tryd.func93 (by kernel_rfl) rfl args w
theorem enters96 (args : Array Value) (w : World) : (callFunc 96 args).run Tryd.prog w = .ok (.enter 96 args) w := enters Tryd.func96 (by kernel_rfl) rfl args w
set_option maxHeartbeats 1000000 in
theorem pred173 (id : Int) (B : Nat) (w : World) (hB : B < w.heap.size) (hc : w.cell? ⟨B, 0, none⟩ = some (.int .i64 id)) : Pred k98 173 #[.pointer (some ⟨B, 0, none⟩)] (fun x => x.f2.contains id) w := by
  intro W x cs hb hK
  obtain ⟨A2, c2, rfl, l2, g2⟩ := k98_open hK
  have hc' := (hb.cell (p := ⟨B, 0, none⟩) hB).trans hc
  have hl : B < W.heap.size := Nat.lt_of_lt_of_le hB hb.size
  show Calls Tryd.prog 173 #[.agg #[.int .i64 x.f0, .string x.f1, .slice A2 x.f2.length c2, .bool x.f3, .int .i64 x.f4], .pointer (some ⟨B, 0, none⟩)] W _
  have HB := Aside0.mk hb
  have HQ := Lib.hid (fun W' (hb' : Below W.heap.size W W') => contains_calls A2 c2 _ x.f2 id rfl W' (Kd.C_below g2 hb') l2)
  obtain ⟨r, hr⟩ : ∃ r, x.f2.contains id = r := ⟨_, rfl⟩
  show Calls Tryd.prog _ _ _ fun e w' => e = .returned (.bool (x.f2.contains id)) ∧ _
  rw [hr] at HQ ⊢
  clear hb hc hK g2 hr
  go_enter Tryd.func173, Tryd.ntmps173
  go_wp2_with (go_at_call 163; refine (HQ.out _ (below_alloc (Below.refl _ _) _)).mono ?_; rintro e w' ⟨rfl, hd⟩)
  go_ret
  exact ⟨rfl, below_then HB.out HB.out.size (below_then (below_alloc (Below.refl _ _) _) (by simp) hd.below)⟩
theorem str_contains_calls (A : Option Addr) (c n : Nat) (l : List ByteArray) (a : ByteArray) (hn : l.length = n) (hb : l.length < 1000) (w : World) (h : Kd.string.C w A l.length l) (hc : n ≤ c) :
    Calls Tryd.prog 70 #[.slice A n c, .string a] w fun e w' => e = .returned (.bool (l.any (fun w => a.toList == w.toList))) ∧ Below w.heap.size w w' := by
  subst hn
  exact (slices_Contains_string_string.calls (l.length + 1) A c l a _ w h hc (str_contains l a _ (by omega) (by omega))).mono fun e w' h => ⟨h.1, by first | exact h.2 | exact h.2.below⟩
set_option maxHeartbeats 1000000 in
theorem kind97_calls (k : Int) (w : World) : Calls Tryd.prog 97 #[.int .i64 k] w fun e w' => e = .returned (.bool (decide (1 ≤ k) && decide (k ≤ 5))) ∧ Below w.heap.size w w' := by
  by_cases h1 : 1 ≤ k
  · have hd1 : decide (1 ≤ k) = true := decide_eq_true h1
    obtain ⟨b, hb⟩ : ∃ b, decide (k ≤ 5) = b := ⟨_, rfl⟩
    rw [hd1, hb, Bool.true_and]
    clear h1
    go_enter Tryd.func97, Tryd.ntmps97
    go_wp2
    go_ret
    exact ⟨rfl, Below.refl _ _⟩
  · have hd1 : decide (1 ≤ k) = false := decide_eq_false h1
    rw [hd1, Bool.false_and]
    clear h1
    go_enter Tryd.func97, Tryd.ntmps97
    go_wp2
    all_goals
      go_ret
      exact ⟨rfl, Below.refl _ _⟩
set_option maxHeartbeats 1000000 in
theorem pred96 (w : World) : Pred1 (Value.int .i64) 96 #[] (fun k => !(decide (1 ≤ k) && decide (k ≤ 5))) w := by
  intro W x hb
  have HB := Aside0.mk hb
  have HQ := Lib.hid (fun W => kind97_calls x W)
  show Calls Tryd.prog 96 #[.int .i64 x] W fun e w' => e = .returned (.bool (!(decide (1 ≤ x) && decide (x ≤ 5)))) ∧ _
  obtain ⟨r, hr⟩ : ∃ r, (decide (1 ≤ x) && decide (x ≤ 5)) = r := ⟨_, rfl⟩
  rw [hr] at HQ ⊢
  clear hb hr
  go_enter Tryd.func96, Tryd.ntmps96
  go_wp2_with (go_at_call 97; refine (HQ.out _).mono ?_; rintro e w' ⟨rfl, hd⟩)
  go_ret
  exact ⟨rfl, below_then HB.out HB.out.size hd⟩
set_option maxHeartbeats 1000000 in
theorem pred93 (w : World) (hG : GL w) : Pred1 Value.string 93 #[] (fun n => !(nameB n)) w := by
  intro W x hb
  have HB := Aside0.mk hb
  have HQ := Lib.hid (nameCalls x W (hG.of_below hb))
  show Calls Tryd.prog 93 #[.string x] W _
  clear hb
  go_enter Tryd.func93, Tryd.ntmps93
  go_wp2_with (go_at_call 33; refine HQ.out.mono ?_; rintro e w' ⟨rfl, hd⟩)
  go_ret
  exact ⟨rfl, below_then HB.out HB.out.size hd⟩
set_option maxHeartbeats 1000000 in
theorem index_calls142 (n : ByteArray) (sh : Bool) (pa : Addr) (xs : List S98) (A : Option Addr) (c : Nat) (w : World) (hp : w.cell? ⟨pa.block, pa.off + 3, none⟩ = some (.slice A xs.length c)) (hC : k98.C w A xs.length xs) :
    Calls Tryd.prog 142 #[.pointer (some pa), .string n, .bool sh] w fun e w' => e = .returned (.int .i64 (idxL (xNamed n sh) xs 0)) ∧ Below w.heap.size w w' := by
  obtain ⟨w0, hw0⟩ : ∃ w0, w0 = (w.alloc (.cells #[.string n] 9)).alloc (.cells #[.bool sh] 4) := ⟨_, rfl⟩
  have hb0 : Below w.heap.size w w0 := by rw [hw0]; exact below_alloc (below_alloc (Below.refl _ _) _) _
  have x0 : w0.heap[w.heap.size]? = some (.cells #[.string n] 9 (0, 0)) := by rw [hw0]; exact blk_alloc (heap_alloc_new w _) _
  have x1 : w0.heap[w.heap.size + 1]? = some (.cells #[.bool sh] 4 (0, 0)) := by
    have := heap_alloc_new (w.alloc (.cells #[.string n] 9)) (.cells #[.bool sh] 4)
    rw [hw0]
    simpa using this
  have HQ := Lib.hid (idx98 169 #[.pointer (some ⟨w.heap.size, 0, none⟩), .pointer (some ⟨w.heap.size + 1, 0, none⟩)] enters169 (xNamed n sh) A c xs w0 (Kd.C_below hC hb0) (pred169 n sh _ _ w0 (lt_of_block x0) (lt_of_block x1) (blk_cell x0 rfl) (blk_cell x1 rfl)))
  have HB0 := Aside0.mk hb0
  have hmf : ∀ (fn : Fn) (first cap : Array Value) (w : World), (Instr.makeFunc fn first cap).run Tryd.prog w = .ok (.func fn first cap) w := fun _ _ _ _ => rfl
  have hp0 := pw_cell_below hb0 hp
  rw [hw0] at HQ hp0
  have HW0 := Lib.hid hw0
  clear hb0 x0 x1 hC hw0 hp
  go_enter Tryd.func142, Tryd.ntmps142
  go_wp2_with fail
  refine HQ.out.mono ?_
  rw [← HW0.out]
  rintro e w1 ⟨rfl, hb1⟩
  have HB1 := Aside0.mk (below_then HB0.out HB0.out.size hb1)
  clear hb1
  go_wp2
  go_ret
  exact ⟨rfl, HB1.out⟩
set_option maxHeartbeats 1000000 in
theorem column_calls143 (n : ByteArray) (sh : Bool) (pa : Addr) (xs : List S75) (A : Option Addr) (c : Nat) (w : World) (hp : w.cell? ⟨pa.block, pa.off + 2, none⟩ = some (.slice A xs.length c)) (hC : k75.C w A xs.length xs) :
    Calls Tryd.prog 143 #[.pointer (some pa), .string n, .bool sh] w fun e w' => e = .returned (.int .i64 (idxL (cNamed n sh) xs 0)) ∧ Below w.heap.size w w' := by
  obtain ⟨w0, hw0⟩ : ∃ w0, w0 = (w.alloc (.cells #[.string n] 9)).alloc (.cells #[.bool sh] 4) := ⟨_, rfl⟩
  have hb0 : Below w.heap.size w w0 := by rw [hw0]; exact below_alloc (below_alloc (Below.refl _ _) _) _
  have x0 : w0.heap[w.heap.size]? = some (.cells #[.string n] 9 (0, 0)) := by rw [hw0]; exact blk_alloc (heap_alloc_new w _) _
  have x1 : w0.heap[w.heap.size + 1]? = some (.cells #[.bool sh] 4 (0, 0)) := by
    have := heap_alloc_new (w.alloc (.cells #[.string n] 9)) (.cells #[.bool sh] 4)
    rw [hw0]
    simpa using this
  have HQ := Lib.hid (idx75 170 #[.pointer (some ⟨w.heap.size, 0, none⟩), .pointer (some ⟨w.heap.size + 1, 0, none⟩)] enters170 (cNamed n sh) A c xs w0 (Kd.C_below hC hb0) (pred170 n sh _ _ w0 (lt_of_block x0) (lt_of_block x1) (blk_cell x0 rfl) (blk_cell x1 rfl)))
  have HB0 := Aside0.mk hb0
  have hmf : ∀ (fn : Fn) (first cap : Array Value) (w : World), (Instr.makeFunc fn first cap).run Tryd.prog w = .ok (.func fn first cap) w := fun _ _ _ _ => rfl
  have hp0 := pw_cell_below hb0 hp
  rw [hw0] at HQ hp0
  have HW0 := Lib.hid hw0
  clear hb0 x0 x1 hC hw0 hp
  go_enter Tryd.func143, Tryd.ntmps143
  go_wp2_with fail
  refine HQ.out.mono ?_
  rw [← HW0.out]
  rintro e w1 ⟨rfl, hb1⟩
  have HB1 := Aside0.mk (below_then HB0.out HB0.out.size hb1)
  clear hb1
  go_wp2
  go_ret
  exact ⟨rfl, HB1.out⟩
theorem used_any (id : Int) (xs : List S98) : (xs.any fun x => x.f2.contains id) = usedB id xs := by
  unfold usedB
  congr 1
  funext x
  induction x.f2 with
  | nil => rfl
  | cons y l ih => rw [List.contains_cons, List.any_cons, ih]; congr 1; (by_cases h : id = y; (rw [h]; simp); (rw [decide_eq_false (fun e => h e.symm)]; simpa using h))
set_option maxHeartbeats 1000000 in
theorem leaned_calls (id : Int) (pa : Addr) (xs : List S98) (A : Option Addr) (c : Nat) (w : World) (hp : w.cell? ⟨pa.block, pa.off + 3, none⟩ = some (.slice A xs.length c)) (hC : k98.C w A xs.length xs) :
    Calls Tryd.prog 145 #[.pointer (some pa), .int .i64 id] w fun e w' => e = .returned (.bool (usedB id xs)) ∧ Below w.heap.size w w' := by
  have hb0 := below_alloc (Below.refl _ w) (.cells #[.int .i64 id] 3)
  have x0 := heap_alloc_new w (.cells #[.int .i64 id] 3)
  have HQ := Lib.hid (any172 173 #[.pointer (some ⟨w.heap.size, 0, none⟩)] enters173 (fun x => x.f2.contains id) A c xs _ (Kd.C_below hC hb0) (pred173 id _ _ (lt_of_block x0) (blk_cell x0 rfl)))
  rw [used_any] at HQ
  have hp0 := pw_cell_below hb0 hp
  have HB0 := Aside0.mk hb0
  have hmf : ∀ (fn : Fn) (first cap : Array Value) (w : World), (Instr.makeFunc fn first cap).run Tryd.prog w = .ok (.func fn first cap) w := fun _ _ _ _ => rfl
  clear hb0 x0 hC hp
  go_enter Tryd.func145, Tryd.ntmps145
  go_wp2_with fail
  refine HQ.out.mono ?_
  rintro e w1 ⟨rfl, hb1⟩
  have HB1 := Aside0.mk (below_then HB0.out HB0.out.size hb1)
  clear hb1
  go_wp2
  go_ret
  exact ⟨rfl, HB1.out⟩
set_option maxRecDepth 100000 in
set_option maxHeartbeats 4000000 in
theorem twice98_calls (l : List ByteArray) (hl : l.length < 1000) (A : Option Addr) (c : Nat) (w : World) (hc : l.length ≤ c) (g : Kd.string.C w A l.length l) : Calls Tryd.prog 98 #[.slice A l.length c] w fun e w' => e = .returned (.bool (twiceB [] l)) ∧ Below w.heap.size w w' := by
  have HA := Lib.hid g
  have hbig := g.2.1
  have HT := Lib.hid (show twiceB [] l = twiceB (l.take 0) (l.drop 0) by simp)
  obtain ⟨R, hR⟩ : ∃ R, twiceB [] l = R := ⟨_, rfl⟩
  rw [hR]
  rw [hR] at HT
  clear g hR
  go_enter Tryd.func98, Tryd.ntmps98
  go_wp2
  go_loopg [3, 4, 7] l.length (fun gg _ _ s7 wr => ∃ kk : Nat, kk ≤ l.length ∧ l.length - kk ≤ gg ∧ s7 = .int .i64 kk ∧ Aside0 (Below w.heap.size w wr) ∧ Aside0 (R = twiceB (l.take kk) (l.drop kk)))
  case atStart => exact ⟨0, Nat.zero_le _, by omega, rfl, ⟨Below.refl _ w⟩, ⟨HT.out⟩⟩
  case round =>
    obtain ⟨kk, hkk, hg, rfl, BW, hI⟩ := hrel
    by_cases hlt : kk < l.length
    · have hltz : (kk : Int) < (l.length : Int) := by omega
      have hd : l.drop kk = l[kk] :: l.drop (kk + 1) := List.drop_eq_getElem_cons hlt
      have hC := Kd.C_below HA.out BW.out
      obtain ⟨ad, eA, h0⟩ := at_str hC kk hlt
      have hCt := Kd.C_take hC (m := kk) (by omega)
      have ht : (l.take kk).length = kk := by rw [List.length_take]; omega
      have HQ := Lib.hid (str_contains_calls A c kk (l.take kk) l[kk] ht (by omega) wr hCt (by omega))
      have hI2 := hI.out
      rw [hd] at hI2
      have hI3 : R = (((l.take kk).any fun w => l[kk].toList == w.toList) || twiceB (l.take (kk + 1)) (l.drop (kk + 1))) := by
        rw [hI2, List.take_succ_eq_append_getElem hlt]
        rfl
      obtain ⟨a, ha⟩ : ∃ a, l[kk] = a := ⟨_, rfl⟩
      rw [ha] at h0 HQ hI3
      cases eA
      obtain ⟨q, hq⟩ : ∃ q, ((l.take kk).any fun w => a.toList == w.toList) = q := ⟨_, rfl⟩
      rw [hq] at HQ hI3
      have HI3 := Aside0.mk hI3
      clear hI3 hI2 hI hd hC hCt ht ha hq
      cases q with
      | true =>
        have HR := Lib.hid (show R = true from HI3.out)
        go_wp2_with fail
        refine HQ.out.mono ?_
        rintro e w' ⟨rfl, hb'⟩
        go_wp2
        go_ret
        exact ⟨by rw [HR.out]; rfl, below_then BW.out BW.out.size hb'⟩
      | false =>
        go_wp2_with fail
        refine HQ.out.mono ?_
        rintro e w' ⟨rfl, hb'⟩
        go_wp2
        go_roundg (l.length - (kk + 1))
        case measure => omega
        case rel => exact ⟨kk + 1, by omega, by omega, by go_num, ⟨below_then BW.out BW.out.size hb'⟩, ⟨by rw [HI3.out, Bool.false_or]⟩⟩
    · have hltz : ¬ (kk : Int) < (l.length : Int) := by omega
      have hR : R = false := by rw [hI.out, List.drop_eq_nil_of_le (by omega)]; rfl
      have HR := Lib.hid hR
      clear hR hI
      go_wp2
      go_ret
      exact ⟨by rw [HR.out]; rfl, BW.out⟩
end Go.Proofs.YtjgomlcdmpcoaaaDoor.H
namespace Go.Proofs.YtjgomlcdmpcoaaaDoor.H
open Go.RowKit Go.Proofs.YtjgomlcdmpcoaaaDoorW.PrintWords Go.Proofs.YtjgomlcdmpcoaaaDoorW.PrintLast Go.Proofs.YtjgomlcdmpcoaaaDoorW.PrintMore
open Go.Proofs.YtjgomlcdmpcoaaaDoor.D Go.Proofs.YtjgomlcdmpcoaaaDoor
set_option linter.unusedVariables false
set_option linter.unusedSimpArgs false
set_option maxRecDepth 100000 in
set_option maxHeartbeats 4000000 in
theorem clone113 (xs : List S75) (A : Option Addr) (c : Nat) (w : World) (hn : xs.length ≤ 1000) (hC : (k75).C w A xs.length xs) :
    Calls Tryd.prog 113 #[.slice A xs.length c] w fun e w' => ∃ v, e = .returned v ∧ (k75).R 75 w' w.heap.size (fun _ => True) v xs ∧ Below w.heap.size w w' := by
  have HC := Aside0.mk hC
  have hq : ∀ (W : World) (a : Option Addr) (n c n' c' : Nat), (binOp .eql 67 (.slice a n c) (.slice none n' c')).run Tryd.prog W = .ok (.bool a.isNone) W := fun W a n c n' c' => Lib.run_eql_slice_nil W _ _ a n c n' c' Tryd.underlying67
  rcases A with _ | ad
  · have h0 : xs = [] := by
      rcases xs with _ | ⟨x, l⟩
      · rfl
      · obtain ⟨ad, e, -⟩ := hC.2.2 (by simp)
        cases e
    subst h0
    clear hC
    go_enter Tryd.func113, Tryd.ntmps113
    go_wp2
    go_ret
    exact ⟨_, rfl, Kd.R_nil _ _ _ _ _, Below.refl _ _⟩
  · clear hC
    go_enter Tryd.func113, Tryd.ntmps113
    go_wp2_with (first
      | ((with_reducible refine gate_dst (N := 5) rfl ?_); refine Kd.R_lit (k75) (w0 := w) w.heap.size 75 ?hg (N := 5) ?hd (xs := ([] : List S75)) (inner := []) (ok := fun _ => True) (okp := fun _ => True) ?hr (Reps.none _ _) (fun _ hk => hk) trivial (Below.refl _ _) (by simp) (by simp) ?_; (case hd => rfl); (case hg => rfl); (case hr => first | (go_simp; done) | (go_simp; rfl)); intro v1 w1 ho1 hb1 hg1 hn1; have HV := Aside0.mk ho1; have HB1 := Aside0.mk hb1; clear ho1 hb1 hg1 hn1)
      | ((with_reducible refine gate_builtin (b := .append) (xs := #[.tmp 5, .tmp 6]) rfl ?_); at_builtin; refine Kd.R_append_rows (k75) (w0 := w) w.heap.size rfl (.tmp 5) (.tmp 6) 67 75 (.agg #[(.int .i64 0), (.string ⟨#[]⟩), (.int .i64 0), (.int .i64 0), (.int .i64 0), (.int .i64 0), (.int .i64 0), (.int .u64 0), (.string ⟨#[]⟩)]) 88 rfl Tryd.underlying67 info75 rfl (by decide) (by omega) v1 [] xs _ _ _ (fun _ => True) (fun _ => False) rfl rfl HV.out (Kd.C_below HC.out HB1.out) (fun _ _ h => h) (fun _ h => h.elim) (fun _ _ => trivial) HB1.out HB1.out.size (by simp only [List.length_nil]; omega) ?_; intro v2 w2 ho2 hb2 hg2 hat2; rw [List.nil_append] at ho2; have HF := Aside0.mk ho2; have HB2 := Aside0.mk hb2; clear ho2 hb2 hg2 hat2))
    go_ret
    exact ⟨_, rfl, HF.out, HB2.out⟩
set_option maxRecDepth 100000 in
set_option maxHeartbeats 4000000 in
theorem clone154 (xs : List Int) (A : Option Addr) (c : Nat) (w : World) (hn : xs.length ≤ 1000) (hC : (Kd.int .i64).C w A xs.length xs) :
    Calls Tryd.prog 154 #[.slice A xs.length c] w fun e w' => ∃ v, e = .returned v ∧ (Kd.int .i64).R 3 w' w.heap.size (fun _ => True) v xs ∧ Below w.heap.size w w' := by
  have HC := Aside0.mk hC
  have hq : ∀ (W : World) (a : Option Addr) (n c n' c' : Nat), (binOp .eql 40 (.slice a n c) (.slice none n' c')).run Tryd.prog W = .ok (.bool a.isNone) W := fun W a n c n' c' => Lib.run_eql_slice_nil W _ _ a n c n' c' Tryd.underlying40
  rcases A with _ | ad
  · have h0 : xs = [] := by
      rcases xs with _ | ⟨x, l⟩
      · rfl
      · obtain ⟨ad, e, -⟩ := hC.2.2 (by simp)
        cases e
    subst h0
    clear hC
    go_enter Tryd.func154, Tryd.ntmps154
    go_wp2
    go_ret
    exact ⟨_, rfl, Kd.R_nil _ _ _ _ _, Below.refl _ _⟩
  · clear hC
    go_enter Tryd.func154, Tryd.ntmps154
    go_wp2_with (first
      | ((with_reducible refine gate_dst (N := 5) rfl ?_); refine Kd.R_lit (Kd.int .i64) (w0 := w) w.heap.size 3 ?hg (N := 5) ?hd (xs := ([] : List Int)) (inner := []) (ok := fun _ => True) (okp := fun _ => True) ?hr (Reps.none _ _) (fun _ hk => hk) trivial (Below.refl _ _) (by simp) (by simp) ?_; (case hd => rfl); (case hg => rfl); (case hr => first | (go_simp; done) | (go_simp; rfl)); intro v1 w1 ho1 hb1 hg1 hn1; have HV := Aside0.mk ho1; have HB1 := Aside0.mk hb1; clear ho1 hb1 hg1 hn1)
      | ((with_reducible refine gate_builtin (b := .append) (xs := #[.tmp 5, .tmp 6]) rfl ?_); at_builtin; refine Kd.R_append_rows (Kd.int .i64) (w0 := w) w.heap.size rfl (.tmp 5) (.tmp 6) 40 3 (.int .i64 0) 8 rfl Tryd.underlying40 info3 rfl (by decide) (by omega) v1 [] xs _ _ _ (fun _ => True) (fun _ => False) rfl rfl HV.out (Kd.C_below HC.out HB1.out) (fun _ _ h => h) (fun _ h => h.elim) (fun _ _ => trivial) HB1.out HB1.out.size (by simp only [List.length_nil]; omega) ?_; intro v2 w2 ho2 hb2 hg2 hat2; rw [List.nil_append] at ho2; have HF := Aside0.mk ho2; have HB2 := Aside0.mk hb2; clear ho2 hb2 hg2 hat2))
    go_ret
    exact ⟨_, rfl, HF.out, HB2.out⟩
set_option maxRecDepth 100000 in
set_option maxHeartbeats 4000000 in
theorem clone152 (xs : List (List Value)) (A : Option Addr) (c : Nat) (w : World) (hn : xs.length ≤ 1000) (hC : (Kd.raw 5).C w A xs.length xs) :
    Calls Tryd.prog 152 #[.slice A xs.length c] w fun e w' => ∃ v, e = .returned v ∧ (Kd.raw 5).R 70 w' w.heap.size (fun _ => True) v xs ∧ Below w.heap.size w w' := by
  have HC := Aside0.mk hC
  have hq : ∀ (W : World) (a : Option Addr) (n c n' c' : Nat), (binOp .eql 26 (.slice a n c) (.slice none n' c')).run Tryd.prog W = .ok (.bool a.isNone) W := fun W a n c n' c' => Lib.run_eql_slice_nil W _ _ a n c n' c' Tryd.underlying26
  rcases A with _ | ad
  · have h0 : xs = [] := by
      rcases xs with _ | ⟨x, l⟩
      · rfl
      · obtain ⟨ad, e, -⟩ := hC.2.2 (by simp)
        cases e
    subst h0
    clear hC
    go_enter Tryd.func152, Tryd.ntmps152
    go_wp2
    go_ret
    exact ⟨_, rfl, Kd.R_nil _ _ _ _ _, Below.refl _ _⟩
  · clear hC
    go_enter Tryd.func152, Tryd.ntmps152
    go_wp2_with (first
      | ((with_reducible refine gate_dst (N := 5) rfl ?_); refine Kd.R_lit (Kd.raw 5) (w0 := w) w.heap.size 70 ?hg (N := 5) ?hd (xs := ([] : List (List Value))) (inner := []) (ok := fun _ => True) (okp := fun _ => True) ?hr (Reps.none _ _) (fun _ hk => hk) trivial (Below.refl _ _) (by simp) (by simp) ?_; (case hd => rfl); (case hg => rfl); (case hr => first | (go_simp; done) | (go_simp; rfl)); intro v1 w1 ho1 hb1 hg1 hn1; have HV := Aside0.mk ho1; have HB1 := Aside0.mk hb1; clear ho1 hb1 hg1 hn1)
      | ((with_reducible refine gate_builtin (b := .append) (xs := #[.tmp 5, .tmp 6]) rfl ?_); at_builtin; refine Kd.R_append_rows (Kd.raw 5) (w0 := w) w.heap.size rfl (.tmp 5) (.tmp 6) 26 70 (.agg #[(.int .i64 0), (.string ⟨#[]⟩), (.slice none 0 0), (.slice none 0 0), (.int .i64 0)]) 80 rfl Tryd.underlying26 info70 rfl (by decide) (by omega) v1 [] xs _ _ _ (fun _ => True) (fun _ => False) rfl rfl HV.out (Kd.C_below HC.out HB1.out) (fun _ _ h => h) (fun _ h => h.elim) (fun _ _ => trivial) HB1.out HB1.out.size (by simp only [List.length_nil]; omega) ?_; intro v2 w2 ho2 hb2 hg2 hat2; rw [List.nil_append] at ho2; have HF := Aside0.mk ho2; have HB2 := Aside0.mk hb2; clear ho2 hb2 hg2 hat2))
    go_ret
    exact ⟨_, rfl, HF.out, HB2.out⟩
set_option maxRecDepth 100000 in
set_option maxHeartbeats 4000000 in
theorem clone153 (xs : List (List Value)) (A : Option Addr) (c : Nat) (w : World) (hn : xs.length ≤ 1000) (hC : (Kd.raw 5).C w A xs.length xs) :
    Calls Tryd.prog 153 #[.slice A xs.length c] w fun e w' => ∃ v, e = .returned v ∧ (Kd.raw 5).R 98 w' w.heap.size (fun _ => True) v xs ∧ Below w.heap.size w w' := by
  have HC := Aside0.mk hC
  have hq : ∀ (W : World) (a : Option Addr) (n c n' c' : Nat), (binOp .eql 68 (.slice a n c) (.slice none n' c')).run Tryd.prog W = .ok (.bool a.isNone) W := fun W a n c n' c' => Lib.run_eql_slice_nil W _ _ a n c n' c' Tryd.underlying68
  rcases A with _ | ad
  · have h0 : xs = [] := by
      rcases xs with _ | ⟨x, l⟩
      · rfl
      · obtain ⟨ad, e, -⟩ := hC.2.2 (by simp)
        cases e
    subst h0
    clear hC
    go_enter Tryd.func153, Tryd.ntmps153
    go_wp2
    go_ret
    exact ⟨_, rfl, Kd.R_nil _ _ _ _ _, Below.refl _ _⟩
  · clear hC
    go_enter Tryd.func153, Tryd.ntmps153
    go_wp2_with (first
      | ((with_reducible refine gate_dst (N := 5) rfl ?_); refine Kd.R_lit (Kd.raw 5) (w0 := w) w.heap.size 98 ?hg (N := 5) ?hd (xs := ([] : List (List Value))) (inner := []) (ok := fun _ => True) (okp := fun _ => True) ?hr (Reps.none _ _) (fun _ hk => hk) trivial (Below.refl _ _) (by simp) (by simp) ?_; (case hd => rfl); (case hg => rfl); (case hr => first | (go_simp; done) | (go_simp; rfl)); intro v1 w1 ho1 hb1 hg1 hn1; have HV := Aside0.mk ho1; have HB1 := Aside0.mk hb1; clear ho1 hb1 hg1 hn1)
      | ((with_reducible refine gate_builtin (b := .append) (xs := #[.tmp 5, .tmp 6]) rfl ?_); at_builtin; refine Kd.R_append_rows (Kd.raw 5) (w0 := w) w.heap.size rfl (.tmp 5) (.tmp 6) 68 98 (.agg #[(.int .i64 0), (.string ⟨#[]⟩), (.slice none 0 0), (.bool false), (.int .i64 0)]) 64 rfl Tryd.underlying68 info98 rfl (by decide) (by omega) v1 [] xs _ _ _ (fun _ => True) (fun _ => False) rfl rfl HV.out (Kd.C_below HC.out HB1.out) (fun _ _ h => h) (fun _ h => h.elim) (fun _ _ => trivial) HB1.out HB1.out.size (by simp only [List.length_nil]; omega) ?_; intro v2 w2 ho2 hb2 hg2 hat2; rw [List.nil_append] at ho2; have HF := Aside0.mk ho2; have HB2 := Aside0.mk hb2; clear ho2 hb2 hg2 hat2))
    go_ret
    exact ⟨_, rfl, HF.out, HB2.out⟩
end Go.Proofs.YtjgomlcdmpcoaaaDoor.H
