-- printed by wip/tools/print2.sh (the kit's print, with given texts of this repo); not trusted: Lean checks it
import Derived.Test.YtgpdnfhmmeaoeaaPBtx0
import Derived.Test.YtgpdnfhmmeaoeaaPBtx1
import Derived.Test.YtgpdnfhmmeaoeaaPBtx2
import Derived.Test.YtgpdnfhmmeaoeaaPBtx3
import Derived.Test.YtgpdnfhmmeaoeaaPBtx4
import Derived.Test.YtgpdnfhmmeaoeaaPBtx5
import Derived.Test.YtgpdnfhmmeaoeaaPBtx6
import Derived.Test.YtgpdnfhmmeaoeaaPBtx7
import Derived.Test.YtgpdnfhmmeaoeaaPBtx8
import Derived.Test.YtgpdnfhmmeaoeaaPBtx9
import Derived.Test.YtgpdnfhmmeaoeaaPBtx10
import Derived.Test.YtgpdnfhmmeaoeaaPBtx11
import Derived.Test.YtgpdnfhmmeaoeaaPBtx12
import Derived.Test.YtgpdnfhmmeaoeaaPBtx13
namespace Go.Proofs.Ytgpdnfhmmeaoeaa.PBt
open Go.RowKit Go.Proofs.YtgpdnfhmmeaoeaaW.PrintWords Go.Proofs.YtgpdnfhmmeaoeaaW.PrintLast Go.Proofs.YtgpdnfhmmeaoeaaW.PrintMore
attribute [local go_sem] max2_int min2_int max_two min_two max_three min_three max_four min_four   -- for this text's walks alone
set_option linter.unusedVariables false
set_option linter.unusedSimpArgs false

end Go.Proofs.Ytgpdnfhmmeaoeaa.PBt
