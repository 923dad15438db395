/- What LeaseApart comes to is true at all four numbers. No condition. -/
import Derived.Test.YtiblfcbggjbmcaaPLeaseApartx2
import Derived.OpenShut
namespace Go.Proofs.Ytiblfcbggjbmcaa.Pure
open Go.RowKit Go.Proofs.Ytiblfcbggjbmcaa.PLeaseApart Go.Proofs.YtiblfcbggjbmcaaW.PrintWords Go.Proofs.YtiblfcbggjbmcaaW.PrintLast

theorem awake_true : falseworklaw20_awake.f = some true := by decide +kernel

/-- What is within an int's bounds is not turned by int's arithmetic. -/
theorem wrap_id {x : Int} (h0 : -9223372036854775808 ≤ x) (h : x ≤ 9223372036854775807) : wrap64 x = x := by
  unfold wrap64
  omega

theorem rest_of (x : Int) : 0 ≤ wrap64 (Int.tmod (IntKind.u64.wrap x) 21) ∧ wrap64 (Int.tmod (IntKind.u64.wrap x) 21) ≤ 20 := by
  have h0 : 0 ≤ IntKind.u64.wrap x := by
    simp only [IntKind.wrap, IntKind.bits, IntKind.signed]
    simp
    omega
  have h1 : Int.tmod (IntKind.u64.wrap x) 21 = IntKind.u64.wrap x % 21 := Int.tmod_eq_emod_of_nonneg h0
  rw [h1, wrap_id (by omega) (by omega)]
  omega

/-- The law behind the moment at which both clocks tell a time that is not below 0. -/
theorem told (x y : Int) (hx : 0 ≤ x) (hx1 : x ≤ 4294967305) (hy : 0 ≤ y) (hy1 : y ≤ 4294967305) (hxy : x ≤ y + 20) (k : Nat) :
    falseworklaw20_LeaseApart.j0 (k + 1) x y false = some true := by
  have ht := awake_true
  have hg : lease_Grant.f x 5 = some (5, x + 100) := by
    unfold lease_Grant.f lease_below.f
    simp [hx, show x < 1099511627776 by omega, wrap_id (x := x + 100) (by omega) (by omega)]
  have ha : lease_After.f y = some (y + 121) := by
    unfold lease_After.f lease_below.f
    simp [hy, show y < 1099511627776 by omega, wrap_id (x := y + 100) (by omega) (by omega), wrap_id (x := y + 100 + 20) (by omega) (by omega), wrap_id (x := y + 100 + 20 + 1) (by omega) (by omega)]
    omega
  have hb : lease_Good.f 5 (x + 100) (wrap64 (x + 100)) = some true := by
    unfold lease_Good.f
    rw [if_neg (by omega), wrap_id (by omega) (by omega)]
    simp
  have hc : lease_Good.f 5 (x + 100) (y + 121) = some false := by
    unfold lease_Good.f
    rw [if_neg (by omega)]
    simp
    omega
  simp only [falseworklaw20_LeaseApart.j0, Bool.false_eq_true, if_false, hg, ha, Option.bind_some, hb, hc, ht, if_true]
  rw [if_pos (by omega)]

/-- The law where one of them tells a time below 0. -/
theorem slept (x y : Int) (k : Nat) : falseworklaw20_LeaseApart.j0 (k + 1) x y true = some true := by
  simp only [falseworklaw20_LeaseApart.j0, if_true, awake_true, Option.bind_some]

theorem LeaseApart : falseworklaw20_LeaseApart.Pure := by
  intro a0 a1 a2 a3 w0 w1 _ _
  refine ⟨1, ?_⟩
  obtain ⟨p0, p1⟩ := rest_of a2
  obtain ⟨q0, q1⟩ := rest_of a3
  obtain ⟨l0, g0⟩ := bounds_u32 w0
  obtain ⟨l1, g1⟩ := bounds_u32 w1
  unfold falseworklaw20_LeaseApart.f
  generalize wrap64 (Int.tmod (IntKind.u64.wrap a2) 21) = p at *
  generalize wrap64 (Int.tmod (IntKind.u64.wrap a3) 21) = q at *
  have hm : mx 0 (wrap64 (wrap64 a0 - wrap64 a1)) = max 0 (a0 - a1) := by
    rw [wrap_id (x := a0) (by omega) (by omega), wrap_id (x := a1) (by omega) (by omega), wrap_id (by omega) (by omega)]
    unfold mx
    omega
  rw [hm, wrap_id (x := a0) (by omega) (by omega), wrap_id (x := max 0 (a0 - a1) + p) (by omega) (by omega), wrap_id (x := max 0 (a0 - a1) + p - 10) (by omega) (by omega), wrap_id (x := a0 + q) (by omega) (by omega), wrap_id (x := a0 + q - 10) (by omega) (by omega)]
  split
  · exact slept _ _ 0
  · by_cases h : a0 + q - 10 < 0
    · rw [decide_eq_true h]
      exact slept _ _ 0
    · rw [decide_eq_false h]
      exact told _ _ (by omega) (by omega) (by omega) (by omega) (by omega) 0

end Go.Proofs.Ytiblfcbggjbmcaa.Pure
