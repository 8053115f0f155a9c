-- Written by wip/inj.py (the kit's print, with contracts typed by hand beside it).
import Derived.Test.YtinojomgdjogdaaPx0
import Derived.Test.YtinojomgdjogdaaPx1
import Derived.Test.YtinojomgdjogdaaPx2
import Derived.Test.YtinojomgdjogdaaPx3
import Derived.Test.YtinojomgdjogdaaPx4
import Derived.Test.YtinojomgdjogdaaPx5
import Derived.Test.YtinojomgdjogdaaPx6
import Derived.Test.YtinojomgdjogdaaPx7
import Derived.Test.YtinojomgdjogdaaPx8
import Derived.Test.YtinojomgdjogdaaPx9
import Derived.Test.YtinojomgdjogdaaPx10
import Derived.Test.YtinojomgdjogdaaPx11
import Derived.Test.YtinojomgdjogdaaPx12
import Derived.Test.YtinojomgdjogdaaPx13
import Derived.Test.YtinojomgdjogdaaPx14
import Derived.Test.YtinojomgdjogdaaPx15
import Derived.Test.YtinojomgdjogdaaPx16
import Derived.Test.YtinojomgdjogdaaPx17
namespace Go.Proofs.Ytinojomgdjogdaa.P
open Go.RowKit Go.Proofs.YtinojomgdjogdaaW.PrintWords Go.Proofs.YtinojomgdjogdaaW.PrintLast Go.Proofs.YtinojomgdjogdaaW.PrintMore
attribute [local go_sem] max2_int min2_int max_two min_two max_three min_three max_four min_four   -- for this text's walks alone
set_option linter.unusedVariables false
set_option linter.unusedSimpArgs false

end Go.Proofs.Ytinojomgdjogdaa.P
