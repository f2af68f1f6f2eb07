/- What the functions that the statement ReelForms reaches come to, and that the given program's calls come to it; written by this session's program printx.py (wip/tpl), which runs the kit's print over the translation with additions of its own. No printed file. Conditions: as each theorem says. -/
import Derived.Test.YtnmhfcfojbfikaaQReelFormsx0
import Derived.Test.YtnmhfcfojbfikaaQReelFormsx1
import Derived.Test.YtnmhfcfojbfikaaQReelFormsx2
namespace Go.Proofs.Ytnmhfcfojbfikaa.QReelForms
open Go.RowKit Go.Proofs.YtnmhfcfojbfikaaW.PrintWords Go.Proofs.YtnmhfcfojbfikaaW.PrintLast Go.Proofs.YtnmhfcfojbfikaaW.PrintMore
attribute [local go_sem] max2_int min2_int max_two min_two max_three min_three max_four min_four   -- for this text's walks alone
set_option linter.unusedVariables false
set_option linter.unusedSimpArgs false

end Go.Proofs.Ytnmhfcfojbfikaa.QReelForms
