/- What the library's reader of numbers (strconv.ParseUint) comes to at base 16 over hexadecimal digits in small letters, of 64 bits and of 8. Conditions: the text is of such digits alone; what stands in the two variables of errors is nil or an error. -/
import Derived.Test.YtjehfmimbbdnkaaDoorGvRun
import Derived.Test.YtjehfmimbbdnkaaDoorShelf
import Derived.Lib.Strings
import Derived.Lib.Walk
import Derived.Lib.ConvBytes
import Derived.Lib.AtoiAllMem
import Derived.Lib.ParseIntBMem
import Derived.Laws.Strings3
import Derived.Laws.Closers25
import Derived.Laws.Closers25b
import Derived.BigCall
import Derived.BigGuard
namespace Go.Proofs.YtjehfmimbbdnkaaDoor
open Go.RowKit Go.Proofs.YtjehfmimbbdnkaaDoorW.PrintWords Go.Proofs.YtjehfmimbbdnkaaDoorW.PrintLast

/-- A digit's value. -/
def hexVal (c : UInt8) : Nat := if 48 ≤ c.toNat ∧ c.toNat ≤ 57 then c.toNat - 48 else c.toNat - 87
/-- A text's number from one on, up to M. -/
def h16 (M : Nat) : Nat → List UInt8 → Lib.NumEnd Nat
  | acc, [] => .ok acc
  | acc, c :: l => if 1152921504606846976 ≤ acc then .range else if M < acc * 16 + hexVal c then .range else h16 M (acc * 16 + hexVal c) l

theorem hex_cases {c : UInt8} (h : isHex c = true) : (48 ≤ c.toNat ∧ c.toNat ≤ 57 ∧ hexVal c = c.toNat - 48) ∨ (97 ≤ c.toNat ∧ c.toNat ≤ 102 ∧ hexVal c = c.toNat - 87) := by
  unfold isHex isDig at h
  simp only [Bool.or_eq_true, Bool.and_eq_true, decide_eq_true_eq, UInt8.le_iff_toNat_le] at h
  rcases h with ⟨h1, h2⟩ | ⟨h1, h2⟩
  · have h1 : 48 ≤ c.toNat := h1
    have h2 : c.toNat ≤ 57 := h2
    exact .inl ⟨h1, h2, by unfold hexVal; rw [if_pos ⟨h1, h2⟩]⟩
  · have h1 : 97 ≤ c.toNat := h1
    have h2 : c.toNat ≤ 102 := h2
    exact .inr ⟨h1, h2, by unfold hexVal; rw [if_neg (by omega)]⟩

theorem low_or (n : Nat) (h : 97 ≤ n) (h2 : n ≤ 102) : bits .or .u8 (n : Int) 32 = n := by
  have : n = 97 ∨ n = 98 ∨ n = 99 ∨ n = 100 ∨ n = 101 ∨ n = 102 := by omega
  rcases this with rfl | rfl | rfl | rfl | rfl | rfl <;> decide +kernel

set_option maxHeartbeats 400000 in
theorem lower_calls (n : Nat) (h : 97 ≤ n) (h2 : n ≤ 102) (w : World) : Calls Tryd.prog 59 #[.int .u8 n] w fun e w' => e = .returned (.int .u8 n) ∧ w = w' := by
  have hb := Lib.hid (low_or n h h2)
  go_enter Tryd.func59, Tryd.ntmps59
  go_wp2
  go_ret
  refine ⟨?_, rfl⟩
  have e := hb.out
  simp [e]

set_option maxHeartbeats 32000000 in
set_option maxRecDepth 100000 in
theorem hex64 (t : ByteArray) (hne : t.size ≠ 0) (hmax : t.size ≤ 9223372036854775806) (hall : ∀ c ∈ t.data.toList, isHex c = true) (w : World) :
    Calls Tryd.prog 53 #[.string t, .int .i64 16, .int .i64 64] w fun e w' => e = .returned (Lib.uintTupleM 81 18446744073709551615 (h16 18446744073709551615 0 t.data.toList)) ∧ w' = Lib.bytesWorld w 5 t := by
  have hemp : t.toList.isEmpty = false := by
    rw [← decide_eq_emptyBytes]
    exact decide_eq_false (fun h => hne (by rw [h]; rfl))
  have hcv := Lib.run_convert_string_bytes (P := Tryd.prog) w 9 34 5 t (u := .string) Tryd.underlying9 Tryd.underlying34 Tryd.underlying5
  have hB : ∀ j, j < t.size → (Lib.bytesWorld w 5 t).cell? ⟨w.heap.size, j, none⟩ = some (.int .u8 (t.data.toList.getD j 0).toNat) := fun j hj => Lib.bytesWorld_cell w 5 t j hj
  obtain ⟨W1, hW1⟩ : ∃ W1, W1 = Lib.bytesWorld w 5 t := ⟨_, rfl⟩
  rw [← hW1] at hcv hB ⊢
  clear hW1
  obtain ⟨bs, hL⟩ : ∃ bs, bs = t.data.toList := ⟨_, rfl⟩
  have hLn : bs.length = t.size := by rw [hL, Lib.size_eq]
  rw [← hL] at hB hall ⊢
  clear hL
  have HALL := Lib.hid hall
  clear hall
  have hmv : IntKind.u64.wrap (IntKind.u64.wrap 18446744073709551616 - 1) = 18446744073709551615 := by
    rw [IntKind.wrap_u64, IntKind.wrap_u64]
    decide
  go_enter Tryd.func53, Tryd.ntmps53
  go_wp2
  go_loop [12, 13, 101] (fun vu vn vi => ∃ (k acc : Nat) (a : Int), vu = .bool false ∧ vn = .int .u64 a ∧ vi = .int .i64 k ∧ k ≤ t.size ∧ Hid (a = (acc : Int) ∧ acc < 18446744073709551616 ∧ h16 18446744073709551615 0 bs = h16 18446744073709551615 acc (bs.drop k)))
    (fun _ _ vi => t.size - (intOf vi).toNat)
  case atStart => exact ⟨0, 0, 0, rfl, rfl, rfl, by omega, rfl, by omega, rfl⟩
  case round =>
    obtain ⟨k, acc, a, rfl, rfl, rfl, hk, hh⟩ := hrel
    obtain ⟨ha, hacc, hdec⟩ := hh.out
    clear hh
    have a0 : 0 ≤ a := by omega
    have a1 : a < 18446744073709551616 := by omega
    by_cases hkn : k < t.size
    · have hc := hB k hkn
      have hdrop : bs.drop k = bs[k]'(by omega) :: bs.drop (k + 1) := List.drop_eq_getElem_cons (by omega)
      have hget : bs.getD k 0 = bs[k]'(by omega) := by simp [List.getD, List.getElem?_eq_getElem (show k < bs.length by omega)]
      have hhex : isHex (bs[k]'(by omega)) = true := HALL.out _ (List.getElem_mem _)
      rw [hdrop] at hdec
      rw [hget] at hc
      generalize bs[k]'(by omega) = c at hc hdec hhex
      have hc256 : c.toNat < 256 := c.toNat_lt
      clear hB hdrop hget
      rcases hex_cases hhex with ⟨hd0, hd1, hval⟩ | ⟨hd0, hd1, hval⟩
      · clear hhex
        by_cases hcut : 1152921504606846976 ≤ acc
        · have hF : h16 18446744073709551615 acc (c :: bs.drop (k + 1)) = .range := by simp [h16, hcut]
          rw [hF] at hdec
          have icut : 1152921504606846976 ≤ a := by omega
          clear hcut hacc hF ha hval
          go_wp2
          go_ret2
          refine ⟨?_, rfl⟩
          first | rfl | (rw [hdec]; rfl)
        · by_cases hov : 18446744073709551615 < acc * 16 + hexVal c
          · have hF : h16 18446744073709551615 acc (c :: bs.drop (k + 1)) = .range := by simp [h16, hcut, hov]
            rw [hF] at hdec
            have icut : a < 1152921504606846976 := by omega
            have iov : 18446744073709551615 < a * 16 + ((c.toNat : Int) - 48) := by omega
            omega
          · have hF : h16 18446744073709551615 acc (c :: bs.drop (k + 1)) = h16 18446744073709551615 (acc * 16 + hexVal c) (bs.drop (k + 1)) := by rw [h16, if_neg hcut, if_neg hov]
            have HN : Hid (a * 16 + ((c.toNat : Int) - 48) = ((acc * 16 + hexVal c : Nat) : Int) ∧ acc * 16 + hexVal c < 18446744073709551616 ∧ h16 18446744073709551615 0 bs = h16 18446744073709551615 (acc * 16 + hexVal c) (bs.drop (k + 1))) := Lib.hid ⟨by omega, by omega, hdec.trans hF⟩
            have icut : a < 1152921504606846976 := by omega
            have iov : a * 16 + ((c.toNat : Int) - 48) ≤ 18446744073709551615 := by omega
            clear hcut hacc hF hov hdec ha hval
            go_wp2
            refine ⟨⟨k + 1, acc * 16 + hexVal c, a * 16 + ((c.toNat : Int) - 48), rfl, (by first | rfl | (congr 1; omega)), (by first | rfl | (congr 1; omega)), by omega, HN⟩, by simp [intOf]; omega⟩
      · clear hhex
        have hlo := low_or c.toNat hd0 hd1
        have HLO := Lib.hid hlo
        clear hlo
        by_cases hcut : 1152921504606846976 ≤ acc
        · have hF : h16 18446744073709551615 acc (c :: bs.drop (k + 1)) = .range := by simp [h16, hcut]
          rw [hF] at hdec
          have icut : 1152921504606846976 ≤ a := by omega
          clear hcut hacc hF ha hval
          go_wp2_with (go_at_call 59; refine (lower_calls _ (by assumption) (by assumption) _).mono ?_; rintro e w' ⟨rfl, rfl⟩)
          go_ret2
          refine ⟨?_, rfl⟩
          first | rfl | (rw [hdec]; rfl)
        · by_cases hov : 18446744073709551615 < acc * 16 + hexVal c
          · have hF : h16 18446744073709551615 acc (c :: bs.drop (k + 1)) = .range := by simp [h16, hcut, hov]
            rw [hF] at hdec
            have icut : a < 1152921504606846976 := by omega
            have iov : 18446744073709551615 < a * 16 + ((c.toNat : Int) - 87) := by omega
            omega
          · have hF : h16 18446744073709551615 acc (c :: bs.drop (k + 1)) = h16 18446744073709551615 (acc * 16 + hexVal c) (bs.drop (k + 1)) := by rw [h16, if_neg hcut, if_neg hov]
            have HN : Hid (a * 16 + ((c.toNat : Int) - 87) = ((acc * 16 + hexVal c : Nat) : Int) ∧ acc * 16 + hexVal c < 18446744073709551616 ∧ h16 18446744073709551615 0 bs = h16 18446744073709551615 (acc * 16 + hexVal c) (bs.drop (k + 1))) := Lib.hid ⟨by omega, by omega, hdec.trans hF⟩
            have icut : a < 1152921504606846976 := by omega
            have iov : a * 16 + ((c.toNat : Int) - 87) ≤ 18446744073709551615 := by omega
            clear hcut hacc hF hov hdec ha hval
            go_wp2_with (go_at_call 59; refine (lower_calls _ (by assumption) (by assumption) _).mono ?_; rintro e w' ⟨rfl, rfl⟩)
            refine ⟨⟨k + 1, acc * 16 + hexVal c, a * 16 + ((c.toNat : Int) - 87), rfl, (by first | rfl | (congr 1; omega)), (by first | rfl | (congr 1; omega)), by omega, HN⟩, by simp [intOf]; omega⟩
    · have hkk : k = t.size := by omega
      subst hkk
      have hF : h16 18446744073709551615 acc (bs.drop t.size) = .ok acc := by rw [List.drop_eq_nil_of_le (by omega)]; rfl
      rw [hF] at hdec
      subst ha
      clear hacc hF a0 a1
      have HDEC := Lib.hid hdec
      clear hdec
      go_wp2
      go_ret2
      refine ⟨?_, rfl⟩
      rw [HDEC.out]; rfl


set_option maxHeartbeats 32000000 in
set_option maxRecDepth 100000 in
theorem hex8 (t : ByteArray) (hne : t.size ≠ 0) (hmax : t.size ≤ 9223372036854775806) (hall : ∀ c ∈ t.data.toList, isHex c = true) (w : World) :
    Calls Tryd.prog 53 #[.string t, .int .i64 16, .int .i64 8] w fun e w' => e = .returned (Lib.uintTupleM 81 255 (h16 255 0 t.data.toList)) ∧ w' = Lib.bytesWorld w 5 t := by
  have hemp : t.toList.isEmpty = false := by
    rw [← decide_eq_emptyBytes]
    exact decide_eq_false (fun h => hne (by rw [h]; rfl))
  have hcv := Lib.run_convert_string_bytes (P := Tryd.prog) w 9 34 5 t (u := .string) Tryd.underlying9 Tryd.underlying34 Tryd.underlying5
  have hB : ∀ j, j < t.size → (Lib.bytesWorld w 5 t).cell? ⟨w.heap.size, j, none⟩ = some (.int .u8 (t.data.toList.getD j 0).toNat) := fun j hj => Lib.bytesWorld_cell w 5 t j hj
  obtain ⟨W1, hW1⟩ : ∃ W1, W1 = Lib.bytesWorld w 5 t := ⟨_, rfl⟩
  rw [← hW1] at hcv hB ⊢
  clear hW1
  obtain ⟨bs, hL⟩ : ∃ bs, bs = t.data.toList := ⟨_, rfl⟩
  have hLn : bs.length = t.size := by rw [hL, Lib.size_eq]
  rw [← hL] at hB hall ⊢
  clear hL
  have HALL := Lib.hid hall
  clear hall
  have hmv : IntKind.u64.wrap (IntKind.u64.wrap 256 - 1) = 255 := by
    rw [IntKind.wrap_u64, IntKind.wrap_u64]
    decide
  go_enter Tryd.func53, Tryd.ntmps53
  go_wp2
  go_loop [12, 13, 101] (fun vu vn vi => ∃ (k acc : Nat) (a : Int), vu = .bool false ∧ vn = .int .u64 a ∧ vi = .int .i64 k ∧ k ≤ t.size ∧ Hid (a = (acc : Int) ∧ acc < 18446744073709551616 ∧ h16 255 0 bs = h16 255 acc (bs.drop k)))
    (fun _ _ vi => t.size - (intOf vi).toNat)
  case atStart => exact ⟨0, 0, 0, rfl, rfl, rfl, by omega, rfl, by omega, rfl⟩
  case round =>
    obtain ⟨k, acc, a, rfl, rfl, rfl, hk, hh⟩ := hrel
    obtain ⟨ha, hacc, hdec⟩ := hh.out
    clear hh
    have a0 : 0 ≤ a := by omega
    have a1 : a < 18446744073709551616 := by omega
    by_cases hkn : k < t.size
    · have hc := hB k hkn
      have hdrop : bs.drop k = bs[k]'(by omega) :: bs.drop (k + 1) := List.drop_eq_getElem_cons (by omega)
      have hget : bs.getD k 0 = bs[k]'(by omega) := by simp [List.getD, List.getElem?_eq_getElem (show k < bs.length by omega)]
      have hhex : isHex (bs[k]'(by omega)) = true := HALL.out _ (List.getElem_mem _)
      rw [hdrop] at hdec
      rw [hget] at hc
      generalize bs[k]'(by omega) = c at hc hdec hhex
      have hc256 : c.toNat < 256 := c.toNat_lt
      clear hB hdrop hget
      rcases hex_cases hhex with ⟨hd0, hd1, hval⟩ | ⟨hd0, hd1, hval⟩
      · clear hhex
        by_cases hcut : 1152921504606846976 ≤ acc
        · have hF : h16 255 acc (c :: bs.drop (k + 1)) = .range := by simp [h16, hcut]
          rw [hF] at hdec
          have icut : 1152921504606846976 ≤ a := by omega
          clear hcut hacc hF ha hval
          go_wp2
          go_ret2
          refine ⟨?_, rfl⟩
          first | rfl | (rw [hdec]; rfl)
        · by_cases hov : 255 < acc * 16 + hexVal c
          · have hF : h16 255 acc (c :: bs.drop (k + 1)) = .range := by simp [h16, hcut, hov]
            rw [hF] at hdec
            have icut : a < 1152921504606846976 := by omega
            have iov : 255 < a * 16 + ((c.toNat : Int) - 48) := by omega
            have iov2 : a * 16 + ((c.toNat : Int) - 48) < 18446744073709551616 := by omega
            clear hcut hacc hF hov ha hval
            go_wp2
            go_ret2
            refine ⟨?_, rfl⟩
            first | rfl | (rw [hdec]; rfl)
          · have hF : h16 255 acc (c :: bs.drop (k + 1)) = h16 255 (acc * 16 + hexVal c) (bs.drop (k + 1)) := by rw [h16, if_neg hcut, if_neg hov]
            have HN : Hid (a * 16 + ((c.toNat : Int) - 48) = ((acc * 16 + hexVal c : Nat) : Int) ∧ acc * 16 + hexVal c < 18446744073709551616 ∧ h16 255 0 bs = h16 255 (acc * 16 + hexVal c) (bs.drop (k + 1))) := Lib.hid ⟨by omega, by omega, hdec.trans hF⟩
            have icut : a < 1152921504606846976 := by omega
            have iov : a * 16 + ((c.toNat : Int) - 48) ≤ 255 := by omega
            clear hcut hacc hF hov hdec ha hval
            go_wp2
            refine ⟨⟨k + 1, acc * 16 + hexVal c, a * 16 + ((c.toNat : Int) - 48), rfl, (by first | rfl | (congr 1; omega)), (by first | rfl | (congr 1; omega)), by omega, HN⟩, by simp [intOf]; omega⟩
      · clear hhex
        have hlo := low_or c.toNat hd0 hd1
        have HLO := Lib.hid hlo
        clear hlo
        by_cases hcut : 1152921504606846976 ≤ acc
        · have hF : h16 255 acc (c :: bs.drop (k + 1)) = .range := by simp [h16, hcut]
          rw [hF] at hdec
          have icut : 1152921504606846976 ≤ a := by omega
          clear hcut hacc hF ha hval
          go_wp2_with (go_at_call 59; refine (lower_calls _ (by assumption) (by assumption) _).mono ?_; rintro e w' ⟨rfl, rfl⟩)
          go_ret2
          refine ⟨?_, rfl⟩
          first | rfl | (rw [hdec]; rfl)
        · by_cases hov : 255 < acc * 16 + hexVal c
          · have hF : h16 255 acc (c :: bs.drop (k + 1)) = .range := by simp [h16, hcut, hov]
            rw [hF] at hdec
            have icut : a < 1152921504606846976 := by omega
            have iov : 255 < a * 16 + ((c.toNat : Int) - 87) := by omega
            have iov2 : a * 16 + ((c.toNat : Int) - 87) < 18446744073709551616 := by omega
            clear hcut hacc hF hov ha hval
            go_wp2_with (go_at_call 59; refine (lower_calls _ (by assumption) (by assumption) _).mono ?_; rintro e w' ⟨rfl, rfl⟩)
            go_ret2
            refine ⟨?_, rfl⟩
            first | rfl | (rw [hdec]; rfl)
          · have hF : h16 255 acc (c :: bs.drop (k + 1)) = h16 255 (acc * 16 + hexVal c) (bs.drop (k + 1)) := by rw [h16, if_neg hcut, if_neg hov]
            have HN : Hid (a * 16 + ((c.toNat : Int) - 87) = ((acc * 16 + hexVal c : Nat) : Int) ∧ acc * 16 + hexVal c < 18446744073709551616 ∧ h16 255 0 bs = h16 255 (acc * 16 + hexVal c) (bs.drop (k + 1))) := Lib.hid ⟨by omega, by omega, hdec.trans hF⟩
            have icut : a < 1152921504606846976 := by omega
            have iov : a * 16 + ((c.toNat : Int) - 87) ≤ 255 := by omega
            clear hcut hacc hF hov hdec ha hval
            go_wp2_with (go_at_call 59; refine (lower_calls _ (by assumption) (by assumption) _).mono ?_; rintro e w' ⟨rfl, rfl⟩)
            refine ⟨⟨k + 1, acc * 16 + hexVal c, a * 16 + ((c.toNat : Int) - 87), rfl, (by first | rfl | (congr 1; omega)), (by first | rfl | (congr 1; omega)), by omega, HN⟩, by simp [intOf]; omega⟩
    · have hkk : k = t.size := by omega
      subst hkk
      have hF : h16 255 acc (bs.drop t.size) = .ok acc := by rw [List.drop_eq_nil_of_le (by omega)]; rfl
      rw [hF] at hdec
      subst ha
      clear hacc hF a0 a1
      have HDEC := Lib.hid hdec
      clear hdec
      go_wp2
      go_ret2
      refine ⟨?_, rfl⟩
      rw [HDEC.out]; rfl


end Go.Proofs.YtjehfmimbbdnkaaDoor
