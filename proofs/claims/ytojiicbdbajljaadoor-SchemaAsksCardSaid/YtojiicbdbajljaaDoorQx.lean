-- Printed by a program of this session (wip/myprint.py, over the kit's printer) out of the translation.
import Derived.Test.YtojiicbdbajljaaDoorQx0
import Derived.Test.YtojiicbdbajljaaDoorQx1
import Derived.Test.YtojiicbdbajljaaDoorQx2
import Derived.Test.YtojiicbdbajljaaDoorQx3
import Derived.Test.YtojiicbdbajljaaDoorQx4
import Derived.Test.YtojiicbdbajljaaDoorQx5
import Derived.Test.YtojiicbdbajljaaDoorQx6
import Derived.Test.YtojiicbdbajljaaDoorQx7
import Derived.Test.YtojiicbdbajljaaDoorQx8
import Derived.Test.YtojiicbdbajljaaDoorQx9
import Derived.Test.YtojiicbdbajljaaDoorQx10
import Derived.Test.YtojiicbdbajljaaDoorQx11
import Derived.Test.YtojiicbdbajljaaDoorQx12
import Derived.Test.YtojiicbdbajljaaDoorQx13
import Derived.Test.YtojiicbdbajljaaDoorQx14
import Derived.Test.YtojiicbdbajljaaDoorQx15
import Derived.Test.YtojiicbdbajljaaDoorQx16
import Derived.Test.YtojiicbdbajljaaDoorQx17
import Derived.Test.YtojiicbdbajljaaDoorQx18
import Derived.Test.YtojiicbdbajljaaDoorQx19
import Derived.Test.YtojiicbdbajljaaDoorQx20
import Derived.Test.YtojiicbdbajljaaDoorQx21
namespace Go.Proofs.YtojiicbdbajljaaDoor.Q
open Go.RowKit Go.Proofs.YtojiicbdbajljaaDoorW.PrintWords Go.Proofs.YtojiicbdbajljaaDoorW.PrintLast Go.Proofs.YtojiicbdbajljaaDoorW.PrintMore
attribute [local go_sem] max2_int min2_int max_two min_two max_three min_three max_four min_four   -- for this text's walks alone
set_option linter.unusedVariables false
set_option linter.unusedSimpArgs false

end Go.Proofs.YtojiicbdbajljaaDoor.Q
