-- Printed by myprint.py (wip/tools): the kit's printer, with some functions given by hand.
import Derived.Test.YtengjaojkcokcaaGreatDoorT0
import Derived.Test.YtengjaojkcokcaaGreatDoorT1
import Derived.Test.YtengjaojkcokcaaGreatDoorT2
import Derived.Test.YtengjaojkcokcaaGreatDoorT3
import Derived.Test.YtengjaojkcokcaaGreatDoorT4
import Derived.Test.YtengjaojkcokcaaGreatDoorT5
namespace Go.Proofs.YtengjaojkcokcaaGreatDoor.T
open Go.RowKit Go.Proofs.YtengjaojkcokcaaGreatDoorW.PrintWords Go.Proofs.YtengjaojkcokcaaGreatDoorW.PrintLast Go.Proofs.YtengjaojkcokcaaGreatDoorW.PrintMore
attribute [local go_sem] max2_int min2_int max_two min_two max_three min_three max_four min_four   -- for this text's walks alone
set_option linter.unusedVariables false
set_option linter.unusedSimpArgs false

end Go.Proofs.YtengjaojkcokcaaGreatDoor.T
