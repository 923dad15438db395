/- The one form of a float by its bits (flo.Canon): the run of the given code, with the model's floats, is the rule on whole numbers. Condition: the number is one of 64 bits. -/
import Derived.Test.YtjehfmimbbdnkaaDoorProg
import Derived.Test.YtjehfmimbbdnkaaDoorWWords
import Derived.Test.YtjehfmimbbdnkaaDoorWLast
import Derived.WalkKit
import Derived.WalkLawsBesides
import Derived.OwnWalk
import Derived.Lib.Hide
import Derived.Laws.Externs
namespace Go.Proofs.YtjehfmimbbdnkaaDoor
open Go.RowKit Go.Proofs.YtjehfmimbbdnkaaDoorW.PrintWords Go.Proofs.YtjehfmimbbdnkaaDoorW.PrintLast

/-- What stands for all that are as good. -/
def canonI (a : Int) : Int := if a % 9223372036854775808 > 9218868437227405312 then 9221120237041090560 else if a = 9223372036854775808 then 0 else a
def flo_Canon.f (a0 : Int) : Option Int := if 0 ≤ a0 then if a0 < 18446744073709551616 then some (canonI a0) else none else none

theorem signW : Ieee.double.signWeight = 9223372036854775808 := by decide +kernel
theorem binadeW : Ieee.double.binade = 4503599627370496 := by decide +kernel
theorem infW : Ieee.double.infRung = 9218868437227405312 := by decide +kernel

theorem signed_zero (s : Bool) (m k : Nat) : Ieee.signed s m k = 0 ↔ m = 0 := by
  unfold Ieee.signed
  have h2 : 2 ^ k ≠ 0 := Nat.pos_iff_ne_zero.1 (Nat.pow_pos (by decide))
  have h3 : m <<< k = 0 ↔ m = 0 := by rw [Nat.shiftLeft_eq, Nat.mul_eq_zero]; exact ⟨fun h => h.resolve_right h2, .inl⟩
  rw [← h3]
  generalize m <<< k = z
  cases s <;> simp

theorem order_self (d : Ieee.Datum) : (d.order d == some .eq) = !d.isNaN := by
  cases d with
  | number s m i =>
    simp only [Ieee.Datum.order, Ieee.Datum.isNaN]
    have h : ∀ a : Int, compare a a = Ordering.eq := fun a => by simp
    rw [h]
    rfl
  | infinity s => cases s <;> rfl
  | nan s f => rfl

theorem read_nan (n : Nat) : (Ieee.double.read n).isNaN = decide (n % 9223372036854775808 > 9218868437227405312) := by
  unfold Ieee.Format.read
  simp only [signW, binadeW, infW]
  generalize n % 9223372036854775808 = r
  split
  · rename_i h
    simp only [Ieee.Datum.isNaN]
    rw [decide_eq_false (by omega)]
  · split
    · rename_i h1 h
      simp only [Ieee.Datum.isNaN]
      rw [decide_eq_false (by omega)]
    · split
      · rename_i h
        subst h
        rfl
      · rename_i h1 h2 h3
        simp only [Ieee.Datum.isNaN]
        rw [decide_eq_true (by omega)]

theorem eq_self (n : Nat) : Op.floatEq .f64 n n = !decide (n % 9223372036854775808 > 9218868437227405312) := by
  rw [← read_nan]
  exact order_self _

theorem read_0 : Ieee.double.read 0 = .number false 0 Ieee.double.leastPlace := by rfl

theorem num_zero (s : Bool) (m : Nat) (i j : Int) : ((Ieee.Datum.number s m i).order (.number false 0 j) == some .eq) = decide (m = 0) := by
  simp only [Ieee.Datum.order]
  have h0 : ∀ k, Ieee.signed false 0 k = 0 := fun k => (signed_zero false 0 k).2 rfl
  rw [h0]
  by_cases hm : m = 0
  · rw [(signed_zero s m _).2 hm, decide_eq_true hm]
    rfl
  · rw [decide_eq_false hm]
    have h1 : Ieee.signed s m (i - min i j).toNat ≠ 0 := fun h => hm ((signed_zero s m _).1 h)
    generalize Ieee.signed s m (i - min i j).toNat = z at h1
    have h2 : compare z 0 ≠ Ordering.eq := by simpa using h1
    cases hc : compare z 0 <;> simp_all

theorem eq_zero (n : Nat) : Op.floatEq .f64 n 0 = decide (n % 9223372036854775808 = 0) := by
  show ((Ieee.double.read n).order (Ieee.double.read 0) == some .eq) = _
  rw [read_0]
  unfold Ieee.Format.read
  simp only [signW, binadeW, infW]
  generalize n % 9223372036854775808 = r
  split
  · rename_i h
    exact num_zero _ _ _ _
  · split
    · rename_i h1 h
      rw [num_zero, decide_eq_false (by omega), decide_eq_false (by omega)]
    · split
      · rename_i h
        rw [decide_eq_false (by omega)]
        cases (n / 9223372036854775808 % 2 == 1) <;> rfl
      · rw [decide_eq_false (by omega)]
        rfl

theorem from_run (n : Int) (w : World) : (callFunc 55 #[.int .u64 n]).run Tryd.prog w = .ok (.value (.float .f64 n.toNat)) w := by
  rw [run_callFunc_extern (e := Extern.MathFloatBits.float64frombits) Tryd.func55 (by kernel_rfl) (by kernel_rfl) (by kernel_rfl) (by kernel_rfl)]
  rfl

theorem bits_self (n : Nat) : (FloatKind.f64.format.order n n != some .eq) = decide (n % 9223372036854775808 > 9218868437227405312) := by
  have h := eq_self n
  unfold Op.floatEq at h
  rw [bne, h, Bool.not_not]
theorem bits_zero (n : Nat) : (FloatKind.f64.format.order n 0 == some .eq) = decide (n % 9223372036854775808 = 0) := eq_zero n

set_option maxHeartbeats 400000 in
theorem flo_Canon.calls (a0 : Int) (r : Int) (w : World) (h : flo_Canon.f a0 = some r) :
    Calls Tryd.prog 45 #[.int .u64 a0] w fun e w' => e = .returned (.int .u64 r) ∧ Drawn0 w w' := by
  unfold flo_Canon.f at h
  by_cases h0 : 0 ≤ a0
  · by_cases h1 : a0 < 18446744073709551616
    · rw [if_pos h0, if_pos h1] at h
      have hx : canonI a0 = r := Option.some.inj h
      have hr := from_run a0
      have hm : ((a0.toNat % 9223372036854775808 : Nat) : Int) = a0 % 9223372036854775808 := by omega
      unfold canonI at hx
      by_cases hn : a0 % 9223372036854775808 > 9218868437227405312
      · rw [if_pos hn] at hx
        have b1 : (FloatKind.f64.format.order a0.toNat a0.toNat != some .eq) = true := by rw [bits_self]; exact decide_eq_true (by omega)
        clear hm hn h h0 h1
        have HX := Lib.hid hx
        clear hx
        go_enter Tryd.func45, Tryd.ntmps45
        go_wp2
        go_ret
        exact ⟨by rw [← HX.out]; rfl, Drawn0.refl _⟩
      · rw [if_neg hn] at hx
        have b1 : (FloatKind.f64.format.order a0.toNat a0.toNat != some .eq) = false := by rw [bits_self]; exact decide_eq_false (by omega)
        by_cases hz : a0 % 9223372036854775808 = 0
        · have b2 : (FloatKind.f64.format.order a0.toNat 0 == some .eq) = true := by rw [bits_zero]; exact decide_eq_true (by omega)
          have hx2 : 0 = r := by
            rw [← hx]
            split
            · rfl
            · omega
          clear hm hn h h0 h1 hz hx
          have HX := Lib.hid hx2
          clear hx2
          go_enter Tryd.func45, Tryd.ntmps45
          go_wp2
          go_ret
          exact ⟨by rw [← HX.out]; rfl, Drawn0.refl _⟩
        · have b2 : (FloatKind.f64.format.order a0.toNat 0 == some .eq) = false := by rw [bits_zero]; exact decide_eq_false (by omega)
          have hx2 : a0 = r := by
            rw [← hx, if_neg (by omega)]
          clear hm hn h h0 h1 hz hx
          have HX := Lib.hid hx2
          clear hx2
          go_enter Tryd.func45, Tryd.ntmps45
          go_wp2
          go_ret
          exact ⟨by rw [HX.out]; rfl, Drawn0.refl _⟩
    · rw [if_pos h0, if_neg h1] at h
      cases h
  · rw [if_neg h0] at h
    cases h

end Go.Proofs.YtjehfmimbbdnkaaDoor
