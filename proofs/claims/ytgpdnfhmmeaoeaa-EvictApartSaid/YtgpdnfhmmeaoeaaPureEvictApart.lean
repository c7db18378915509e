/- For every list of numbers: units that use no cache set in common cost each other no lines, and one way keeps one line of each set (the law EvictApart). No condition. The whole proof lies in the walk of the law (text YtgpdnfhmmeaoeaaPEax.. that holds timeboundlaw38_EvictApart.walk). -/
import Derived.Test.YtgpdnfhmmeaoeaaPEax7
namespace Go.Proofs.Ytgpdnfhmmeaoeaa.Pure
open Go.Proofs.Ytgpdnfhmmeaoeaa.PEa
theorem EvictApart : timeboundlaw38_EvictApart.Pure := fun _ _ _ => rfl
end Go.Proofs.Ytgpdnfhmmeaoeaa.Pure
