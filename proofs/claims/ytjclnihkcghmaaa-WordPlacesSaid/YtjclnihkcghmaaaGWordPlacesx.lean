/- Proved here: what the functions below come to: walks printed by a program, over contracts of this claim. -/
import Derived.Test.YtjclnihkcghmaaaGWordPlacesx0
import Derived.Test.YtjclnihkcghmaaaGWordPlacesx1
import Derived.Test.YtjclnihkcghmaaaGWordPlacesx2
import Derived.Test.YtjclnihkcghmaaaGWordPlacesx3
import Derived.Test.YtjclnihkcghmaaaGWordPlacesx4
import Derived.Test.YtjclnihkcghmaaaGWordPlacesx5
import Derived.Test.YtjclnihkcghmaaaGWordPlacesx6
import Derived.Test.YtjclnihkcghmaaaGWordPlacesx7
import Derived.Test.YtjclnihkcghmaaaGWordPlacesx8
import Derived.Test.YtjclnihkcghmaaaGWordPlacesx9
import Derived.Test.YtjclnihkcghmaaaGWordPlacesx10
import Derived.Test.YtjclnihkcghmaaaGWordPlacesx11
namespace Go.Proofs.Ytjclnihkcghmaaa.PWordPlaces
open Go.RowKit Go.Proofs.YtjclnihkcghmaaaW.PrintWords Go.Proofs.YtjclnihkcghmaaaW.PrintLast Go.Proofs.YtjclnihkcghmaaaW.PrintMore
attribute [local go_sem] max2_int min2_int max_two min_two max_three min_three max_four min_four   -- for this text's walks alone
set_option linter.unusedVariables false
set_option linter.unusedSimpArgs false

end Go.Proofs.Ytjclnihkcghmaaa.PWordPlaces
