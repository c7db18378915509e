/- For every list of numbers: the least urgent job is never blocked, and blocking does not fall with a section more (the law BlockingGrows). No condition. The whole proof lies in the walk of the law (the text that holds timeboundlaw40_BlockingGrows.walk). -/
import Derived.Test.YtgpdnfhmmeaoeaaPBgx13
namespace Go.Proofs.Ytgpdnfhmmeaoeaa.Pure
open Go.Proofs.Ytgpdnfhmmeaoeaa.PBg
theorem BlockingGrows : timeboundlaw40_BlockingGrows.Pure := fun _ _ _ => rfl
end Go.Proofs.Ytgpdnfhmmeaoeaa.Pure
