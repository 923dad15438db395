/- The library's reader of numbers without a sign (strconv.ParseUint) at base 16 over hexadecimal digits in small letters, none too: the number and no error, or an error. Conditions: the text is no longer than a statement may be; what stands in the two variables of errors is nil or an error. -/
import Derived.Test.YtjehfmimbbdnkaaDoorGvHex
import Derived.Test.YtjehfmimbbdnkaaDoorGl
import Derived.Lib.AtoiErrMem
namespace Go.Proofs.YtjehfmimbbdnkaaDoor
open Go.RowKit Go.Proofs.YtjehfmimbbdnkaaDoorW.PrintWords Go.Proofs.YtjehfmimbbdnkaaDoorW.PrintLast

def pmax (b : Int) : Nat := if b = 64 then 18446744073709551615 else 255
theorem pmax64 : pmax 64 = 18446744073709551615 := by unfold pmax; rfl
theorem pmax8 : pmax 8 = 255 := by unfold pmax; rfl
def strconv_ParseUint.f (a0 : ByteArray) (a1 : Int) (a2 : Int) : Option (Int × Option Int) :=
  if a1 = 16 ∧ (a2 = 64 ∨ a2 = 8) ∧ a0.size ≤ 1000 ∧ a0.data.toList.all isHex = true then
    (if a0.size = 0 then some (0, some 0) else match h16 (pmax a2) 0 a0.data.toList with
      | .ok n => some ((n : Int), none)
      | .range => some ((pmax a2 : Int), some 0)
      | _ => none)
  else none

/-- What a call hands back: a number and no error, or an error. -/
def Either (r1 : Int) (r2 : Option Int) (w : World) (e : Ending) (w' : World) : Prop :=
  match r2 with
  | none => e = .returned (.tuple #[.int .u64 r1, .nilIface]) ∧ Below w.heap.size w w'
  | some _ => ∃ te pe, e = .returned (.tuple #[.int .u64 r1, .iface te pe]) ∧ Below w.heap.size w w'

set_option maxRecDepth 100000 in
set_option maxHeartbeats 4000000 in
theorem puint_empty (b : Int) (w : World) (hG : GL w) :
    Calls Tryd.prog 44 #[.string ⟨#[]⟩, .int .i64 16, .int .i64 b] w fun e w' => ∃ te pe, e = .returned (.tuple #[.int .u64 0, .iface te pe]) ∧ Below w.heap.size w w' := by
  have hi : ∀ w : World, Calls Tryd.prog 53 #[.string ⟨#[]⟩, .int .i64 16, .int .i64 b] w fun e w' => e = .returned (.tuple #[.int .u64 0, .iface 81 (.int .i64 2)]) ∧ w = w' := by
    intro w
    go_enter Tryd.func53, Tryd.ntmps53
    go_wp2
    go_ret2
    exact ⟨rfl, rfl⟩
  obtain ⟨ev, hc, he⟩ := hG.syn
  have ht := Tryd.strconv_toError_syntax ⟨#[80, 97, 114, 115, 101, 85, 105, 110, 116]⟩ ⟨#[]⟩ 16 b ev w (by decide) hc he
  have HI := Lib.hid hi
  have HT := Lib.hid ht
  clear hi ht hc he hG
  go_enter Tryd.func44, Tryd.ntmps44
  go_wp2_with (first | (go_at_call 53; refine (HI.out _).mono ?_; rintro e w' ⟨rfl, rfl⟩) | (go_at_call 54; refine HT.out.mono ?_; rintro e w' ⟨N, rfl, _, _, hb⟩))
  go_ret2
  exact ⟨_, _, rfl, by assumption⟩

set_option maxRecDepth 100000 in
set_option maxHeartbeats 4000000 in
theorem puint_64_ok (t : ByteArray) (h0 : t.size ≠ 0) (hs : t.size ≤ 1000) (hall : ∀ c ∈ t.data.toList, isHex c = true) (n : Nat) (hx : h16 18446744073709551615 0 t.data.toList = .ok n) (w : World) :
    Calls Tryd.prog 44 #[.string t, .int .i64 16, .int .i64 64] w fun e w' => e = .returned (.tuple #[.int .u64 n, .nilIface]) ∧ Below w.heap.size w w' := by
  have hi := hex64 t h0 (by omega) hall w
  rw [hx] at hi
  have HI := Lib.hid hi
  clear hi hx hall h0 hs
  go_enter Tryd.func44, Tryd.ntmps44
  go_wp2_with fail
  refine HI.out.mono ?_
  rintro e w' ⟨rfl, rfl⟩
  simp only [Lib.uintTupleM]
  have hb := Lib.bytesWorld_below w 5 t
  generalize Lib.bytesWorld w 5 t = w1 at hb
  have HB := Lib.hid hb
  clear hb
  go_wp2
  go_ret2
  exact ⟨rfl, HB.out⟩
set_option maxRecDepth 100000 in
set_option maxHeartbeats 4000000 in
theorem puint_64_range (t : ByteArray) (h0 : t.size ≠ 0) (hs : t.size ≤ 1000) (hall : ∀ c ∈ t.data.toList, isHex c = true) (hx : h16 18446744073709551615 0 t.data.toList = .range) (w : World) (hG : GL w) :
    Calls Tryd.prog 44 #[.string t, .int .i64 16, .int .i64 64] w fun e w' => ∃ te pe, e = .returned (.tuple #[.int .u64 18446744073709551615, .iface te pe]) ∧ Below w.heap.size w w' := by
  have hi := hex64 t h0 (by omega) hall w
  rw [hx] at hi
  have hl : t.size ≤ 281474976710656 := by omega
  have HL := Lib.hid hl
  have HI := Lib.hid hi
  have HG := Lib.hid hG
  clear hi hx hall h0 hs hG hl
  go_enter Tryd.func44, Tryd.ntmps44
  go_wp2_with fail
  refine HI.out.mono ?_
  rintro e w' ⟨rfl, rfl⟩
  simp only [Lib.uintTupleM]
  have hb := Lib.bytesWorld_below w 5 t
  generalize Lib.bytesWorld w 5 t = w1 at hb
  have hG1 := HG.out.of_below hb
  have HG1 := Lib.hid hG1
  have HB := Lib.hid hb
  clear hb hG1
  go_wp2_with fail
  obtain ⟨ev, hc, he⟩ := HG1.out.rng
  refine (Tryd.strconv_toError_range _ t 16 64 ev _ HL.out hc he).mono ?_
  rintro e w2 ⟨N, rfl, _, _, hb⟩
  have HB2 := Lib.hid (below_step HB.out hb)
  clear hb hc he
  go_wp2
  go_ret2
  exact ⟨_, _, rfl, HB2.out⟩

set_option maxRecDepth 100000 in
set_option maxHeartbeats 4000000 in
theorem puint_8_ok (t : ByteArray) (h0 : t.size ≠ 0) (hs : t.size ≤ 1000) (hall : ∀ c ∈ t.data.toList, isHex c = true) (n : Nat) (hx : h16 255 0 t.data.toList = .ok n) (w : World) :
    Calls Tryd.prog 44 #[.string t, .int .i64 16, .int .i64 8] w fun e w' => e = .returned (.tuple #[.int .u64 n, .nilIface]) ∧ Below w.heap.size w w' := by
  have hi := hex8 t h0 (by omega) hall w
  rw [hx] at hi
  have HI := Lib.hid hi
  clear hi hx hall h0 hs
  go_enter Tryd.func44, Tryd.ntmps44
  go_wp2_with fail
  refine HI.out.mono ?_
  rintro e w' ⟨rfl, rfl⟩
  simp only [Lib.uintTupleM]
  have hb := Lib.bytesWorld_below w 5 t
  generalize Lib.bytesWorld w 5 t = w1 at hb
  have HB := Lib.hid hb
  clear hb
  go_wp2
  go_ret2
  exact ⟨rfl, HB.out⟩
set_option maxRecDepth 100000 in
set_option maxHeartbeats 4000000 in
theorem puint_8_range (t : ByteArray) (h0 : t.size ≠ 0) (hs : t.size ≤ 1000) (hall : ∀ c ∈ t.data.toList, isHex c = true) (hx : h16 255 0 t.data.toList = .range) (w : World) (hG : GL w) :
    Calls Tryd.prog 44 #[.string t, .int .i64 16, .int .i64 8] w fun e w' => ∃ te pe, e = .returned (.tuple #[.int .u64 255, .iface te pe]) ∧ Below w.heap.size w w' := by
  have hi := hex8 t h0 (by omega) hall w
  rw [hx] at hi
  have hl : t.size ≤ 281474976710656 := by omega
  have HL := Lib.hid hl
  have HI := Lib.hid hi
  have HG := Lib.hid hG
  clear hi hx hall h0 hs hG hl
  go_enter Tryd.func44, Tryd.ntmps44
  go_wp2_with fail
  refine HI.out.mono ?_
  rintro e w' ⟨rfl, rfl⟩
  simp only [Lib.uintTupleM]
  have hb := Lib.bytesWorld_below w 5 t
  generalize Lib.bytesWorld w 5 t = w1 at hb
  have hG1 := HG.out.of_below hb
  have HG1 := Lib.hid hG1
  have HB := Lib.hid hb
  clear hb hG1
  go_wp2_with fail
  obtain ⟨ev, hc, he⟩ := HG1.out.rng
  refine (Tryd.strconv_toError_range _ t 16 8 ev _ HL.out hc he).mono ?_
  rintro e w2 ⟨N, rfl, _, _, hb⟩
  have HB2 := Lib.hid (below_step HB.out hb)
  clear hb hc he
  go_wp2
  go_ret2
  exact ⟨_, _, rfl, HB2.out⟩


theorem strconv_ParseUint.calls (a0 : ByteArray) (a1 : Int) (a2 : Int) (r1 : Int) (r2 : Option Int) (w : World) (h : strconv_ParseUint.f a0 a1 a2 = some (r1, r2)) (hG : GL w) :
    Calls Tryd.prog 44 #[.string a0, .int .i64 a1, .int .i64 a2] w (Either r1 r2 w) := by
  unfold strconv_ParseUint.f at h
  split at h
  · rename_i hc
    obtain ⟨rfl, hb, hs, hh⟩ := hc
    have hall : ∀ c ∈ a0.data.toList, isHex c = true := List.all_eq_true.1 hh
    by_cases h0 : a0.size = 0
    · rw [if_pos h0] at h
      obtain ⟨rfl, rfl⟩ := Prod.mk.inj (Option.some.inj h)
      have hz : a0 = ⟨#[]⟩ := ByteArray.ext (Array.eq_empty_of_size_eq_zero h0)
      subst hz
      exact puint_empty a2 w hG
    · rw [if_neg h0] at h
      rcases hb with rfl | rfl
      · rw [pmax64] at h
        cases hx : h16 18446744073709551615 0 a0.data.toList with
        | ok n =>
          rw [hx] at h
          obtain ⟨rfl, rfl⟩ := Prod.mk.inj (Option.some.inj h)
          exact puint_64_ok a0 h0 hs hall n hx w
        | range =>
          rw [hx] at h
          obtain ⟨rfl, rfl⟩ := Prod.mk.inj (Option.some.inj h)
          exact puint_64_range a0 h0 hs hall hx w hG
        | _ =>
          rw [hx] at h
          cases h
      · rw [pmax8] at h
        cases hx : h16 255 0 a0.data.toList with
        | ok n =>
          rw [hx] at h
          obtain ⟨rfl, rfl⟩ := Prod.mk.inj (Option.some.inj h)
          exact puint_8_ok a0 h0 hs hall n hx w
        | range =>
          rw [hx] at h
          obtain ⟨rfl, rfl⟩ := Prod.mk.inj (Option.some.inj h)
          exact puint_8_range a0 h0 hs hall hx w hG
        | _ =>
          rw [hx] at h
          cases h
  · cases h

end Go.Proofs.YtjehfmimbbdnkaaDoor
