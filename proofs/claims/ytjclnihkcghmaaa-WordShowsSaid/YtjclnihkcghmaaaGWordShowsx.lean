/- Proved here: what the functions below come to: walks printed by a program, over contracts of this claim. -/
import Derived.Test.YtjclnihkcghmaaaGWordShowsx0
import Derived.Test.YtjclnihkcghmaaaGWordShowsx1
import Derived.Test.YtjclnihkcghmaaaGWordShowsx2
import Derived.Test.YtjclnihkcghmaaaGWordShowsx3
import Derived.Test.YtjclnihkcghmaaaGWordShowsx4
import Derived.Test.YtjclnihkcghmaaaGWordShowsx5
import Derived.Test.YtjclnihkcghmaaaGWordShowsx6
import Derived.Test.YtjclnihkcghmaaaGWordShowsx7
import Derived.Test.YtjclnihkcghmaaaGWordShowsx8
import Derived.Test.YtjclnihkcghmaaaGWordShowsx9
import Derived.Test.YtjclnihkcghmaaaGWordShowsx10
import Derived.Test.YtjclnihkcghmaaaGWordShowsx11
import Derived.Test.YtjclnihkcghmaaaGWordShowsx12
namespace Go.Proofs.Ytjclnihkcghmaaa.PWordShows
open Go.RowKit Go.Proofs.YtjclnihkcghmaaaW.PrintWords Go.Proofs.YtjclnihkcghmaaaW.PrintLast Go.Proofs.YtjclnihkcghmaaaW.PrintMore
attribute [local go_sem] max2_int min2_int max_two min_two max_three min_three max_four min_four   -- for this text's walks alone
set_option linter.unusedVariables false
set_option linter.unusedSimpArgs false

end Go.Proofs.Ytjclnihkcghmaaa.PWordShows
