/- What LeaseGrants comes to is true at every time and version: the program's lease is the document's. No condition. -/
import Derived.Test.YtiblfcbggjbmcaaPLeaseGrantsx2
namespace Go.Proofs.Ytiblfcbggjbmcaa.Pure
open Go.RowKit Go.Proofs.Ytiblfcbggjbmcaa.PLeaseGrants Go.Proofs.YtiblfcbggjbmcaaW.PrintWords Go.Proofs.YtiblfcbggjbmcaaW.PrintLast

theorem awake_true : falseworklaw20_awake.f = some true := by decide +kernel

theorem LeaseGrants : falseworklaw20_LeaseGrants.Pure := by
  intro a0 a1 _ _
  have ht := awake_true
  have he : lease_Grant.f a0 a1 = falseworkref18_Grant.f a0 a1 := by
    unfold lease_Grant.f falseworkref18_Grant.f lease_below.f
    by_cases h0 : a0 ≥ 0
    · by_cases h1 : a0 < 1099511627776
      · by_cases h2 : a1 ≥ 0
        · by_cases h3 : a1 < 1099511627776
          · simp [h0, h1, h2, h3]
            rw [if_neg (by omega), if_neg (by omega), if_neg (by omega), if_neg (by omega)]
          · simp [h0, h1, h2, h3]
        · simp [h0, h1, h2]
      · simp [h0, h1]
    · simp [h0]
  have hs : ∃ p, falseworkref18_Grant.f a0 a1 = some p := by
    unfold falseworkref18_Grant.f
    repeat' split
    all_goals exact ⟨_, rfl⟩
  obtain ⟨p, hp⟩ := hs
  unfold falseworklaw20_LeaseGrants.f
  rw [he, hp]
  simp [ht]

end Go.Proofs.Ytiblfcbggjbmcaa.Pure
