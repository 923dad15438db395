/- What LeaseAfters comes to is true at every time. No condition. -/
import Derived.Test.YtiblfcbggjbmcaaPLeaseAftersx1
namespace Go.Proofs.Ytiblfcbggjbmcaa.Pure
open Go.RowKit Go.Proofs.Ytiblfcbggjbmcaa.PLeaseAfters Go.Proofs.YtiblfcbggjbmcaaW.PrintWords Go.Proofs.YtiblfcbggjbmcaaW.PrintLast

theorem awake_true : falseworklaw20_awake.f = some true := by decide +kernel

theorem LeaseAfters : falseworklaw20_LeaseAfters.Pure := by
  intro a0 _
  have ht := awake_true
  unfold falseworklaw20_LeaseAfters.f
  have he : lease_After.f a0 = falseworkref18_After.f a0 := by
    unfold lease_After.f falseworkref18_After.f lease_below.f
    by_cases h0 : a0 ≥ 0
    · by_cases h1 : a0 < 1099511627776
      · simp [h0, h1]
        rw [if_neg (by omega), if_neg (by omega)]
      · simp [h0, h1]
    · simp [h0]
  have hs : ∃ p, falseworkref18_After.f a0 = some p := by
    unfold falseworkref18_After.f
    repeat' split
    all_goals exact ⟨_, rfl⟩
  obtain ⟨p, hp⟩ := hs
  rw [he, hp]
  simp [ht]

end Go.Proofs.Ytiblfcbggjbmcaa.Pure
