/- Proved here: what the functions below come to: walks printed by a program, over contracts of this claim. -/
import Derived.Test.YtjclnihkcghmaaaGWordBackx0
import Derived.Test.YtjclnihkcghmaaaGWordBackx1
import Derived.Test.YtjclnihkcghmaaaGWordBackx2
import Derived.Test.YtjclnihkcghmaaaGWordBackx3
import Derived.Test.YtjclnihkcghmaaaGWordBackx4
import Derived.Test.YtjclnihkcghmaaaGWordBackx5
import Derived.Test.YtjclnihkcghmaaaGWordBackx6
import Derived.Test.YtjclnihkcghmaaaGWordBackx7
import Derived.Test.YtjclnihkcghmaaaGWordBackx8
import Derived.Test.YtjclnihkcghmaaaGWordBackx9
import Derived.Test.YtjclnihkcghmaaaGWordBackx10
import Derived.Test.YtjclnihkcghmaaaGWordBackx11
import Derived.Test.YtjclnihkcghmaaaGWordBackx12
namespace Go.Proofs.Ytjclnihkcghmaaa.PWordBack
open Go.RowKit Go.Proofs.YtjclnihkcghmaaaW.PrintWords Go.Proofs.YtjclnihkcghmaaaW.PrintLast Go.Proofs.YtjclnihkcghmaaaW.PrintMore
attribute [local go_sem] max2_int min2_int max_two min_two max_three min_three max_four min_four   -- for this text's walks alone
set_option linter.unusedVariables false
set_option linter.unusedSimpArgs false

end Go.Proofs.Ytjclnihkcghmaaa.PWordBack
