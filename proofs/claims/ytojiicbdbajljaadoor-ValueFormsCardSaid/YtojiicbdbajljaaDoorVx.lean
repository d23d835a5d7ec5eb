-- Printed by a program of this session (wip/myprint.py, over the kit's printer) out of the translation.
import Derived.Test.YtojiicbdbajljaaDoorVx0
import Derived.Test.YtojiicbdbajljaaDoorVx1
import Derived.Test.YtojiicbdbajljaaDoorVx2
import Derived.Test.YtojiicbdbajljaaDoorVx3
import Derived.Test.YtojiicbdbajljaaDoorVx4
import Derived.Test.YtojiicbdbajljaaDoorVx5
import Derived.Test.YtojiicbdbajljaaDoorVx6
import Derived.Test.YtojiicbdbajljaaDoorVx7
import Derived.Test.YtojiicbdbajljaaDoorVx8
import Derived.Test.YtojiicbdbajljaaDoorVx9
import Derived.Test.YtojiicbdbajljaaDoorVx10
import Derived.Test.YtojiicbdbajljaaDoorVx11
import Derived.Test.YtojiicbdbajljaaDoorVx12
import Derived.Test.YtojiicbdbajljaaDoorVx13
import Derived.Test.YtojiicbdbajljaaDoorVx14
import Derived.Test.YtojiicbdbajljaaDoorVx15
import Derived.Test.YtojiicbdbajljaaDoorVx16
import Derived.Test.YtojiicbdbajljaaDoorVx17
import Derived.Test.YtojiicbdbajljaaDoorVx18
import Derived.Test.YtojiicbdbajljaaDoorVx19
namespace Go.Proofs.YtojiicbdbajljaaDoor.V
open Go.RowKit Go.Proofs.YtojiicbdbajljaaDoorW.PrintWords Go.Proofs.YtojiicbdbajljaaDoorW.PrintLast Go.Proofs.YtojiicbdbajljaaDoorW.PrintMore
attribute [local go_sem] max2_int min2_int max_two min_two max_three min_three max_four min_four   -- for this text's walks alone
set_option linter.unusedVariables false
set_option linter.unusedSimpArgs false

end Go.Proofs.YtojiicbdbajljaaDoor.V
