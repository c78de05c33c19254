/- bucket.Bound answers what its reference answers, at every three whole numbers of 64 bits; no further condition. -/
import Derived.Test.YtbbohccnhcfmnaaPBucketBoundsx
import Derived.Test.YtbbohccnhcfmnaaHelp
namespace Go.Proofs.Ytbbohccnhcfmnaa.Pure
open Go.RowKit Go.Proofs.Ytbbohccnhcfmnaa.PBucketBounds Go.Proofs.YtbbohccnhcfmnaaW.PrintWords Go.Proofs.YtbbohccnhcfmnaaW.PrintLast

theorem BucketBounds : packthreadlaw_BucketBounds.Pure := by
  intro a b c _ _ _
  simp only [packthreadlaw_BucketBounds.f, bucket_Bound.f, bucket_may.f, bucket_in.f, packthreadref_BucketBound.f, Int.mul_comm c a]
  by_cases h1 : 0 ≤ a
  · by_cases h2 : a ≤ 1000
    · by_cases h3 : 0 ≤ b
      · by_cases h4 : b ≤ 100000
        · by_cases h5 : 0 ≤ c
          · by_cases h6 : c ≤ 1048576
            · simp [h1, h2, h3, h4, h5, h6, show ¬ a < 0 by omega, show ¬ b < 0 by omega, show ¬ c < 0 by omega, show ¬ a > 1000 by omega, show ¬ b > 100000 by omega, show ¬ c > 1048576 by omega]
            · simp [h1, h2, h3, h4, h5, h6, show ¬ a < 0 by omega, show ¬ b < 0 by omega, show ¬ c < 0 by omega, show ¬ a > 1000 by omega, show ¬ b > 100000 by omega, show c > 1048576 by omega]
          · simp [h1, h2, h3, h4, h5, show ¬ a < 0 by omega, show ¬ b < 0 by omega, show c < 0 by omega, show ¬ a > 1000 by omega, show ¬ b > 100000 by omega]
        · simp [h1, h2, h3, h4, show ¬ a < 0 by omega, show ¬ b < 0 by omega, show ¬ a > 1000 by omega, show b > 100000 by omega]
      · simp [h1, h2, h3, show ¬ a < 0 by omega, show b < 0 by omega, show ¬ a > 1000 by omega]
    · simp [h1, h2, show ¬ a < 0 by omega, show a > 1000 by omega]
  · simp [h1, show a < 0 by omega]

end Go.Proofs.Ytbbohccnhcfmnaa.Pure
