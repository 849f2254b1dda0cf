/- Proved here: what the functions below come to: walks printed by a program, over contracts of this claim. -/
import Derived.Test.YtjclnihkcghmaaaGWordBlanksx0
import Derived.Test.YtjclnihkcghmaaaGWordBlanksx1
import Derived.Test.YtjclnihkcghmaaaGWordBlanksx2
import Derived.Test.YtjclnihkcghmaaaGWordBlanksx3
import Derived.Test.YtjclnihkcghmaaaGWordBlanksx4
import Derived.Test.YtjclnihkcghmaaaGWordBlanksx5
import Derived.Test.YtjclnihkcghmaaaGWordBlanksx6
import Derived.Test.YtjclnihkcghmaaaGWordBlanksx7
import Derived.Test.YtjclnihkcghmaaaGWordBlanksx8
import Derived.Test.YtjclnihkcghmaaaGWordBlanksx9
import Derived.Test.YtjclnihkcghmaaaGWordBlanksx10
import Derived.Test.YtjclnihkcghmaaaGWordBlanksx11
namespace Go.Proofs.Ytjclnihkcghmaaa.PWordBlanks
open Go.RowKit Go.Proofs.YtjclnihkcghmaaaW.PrintWords Go.Proofs.YtjclnihkcghmaaaW.PrintLast Go.Proofs.YtjclnihkcghmaaaW.PrintMore
attribute [local go_sem] max2_int min2_int max_two min_two max_three min_three max_four min_four   -- for this text's walks alone
set_option linter.unusedVariables false
set_option linter.unusedSimpArgs false

end Go.Proofs.Ytjclnihkcghmaaa.PWordBlanks
