-- Made by a program of this session (wip/tools/pp.py) out of the seat's translation; contracts of some functions are typed by hand.
import Derived.Test.YtpgijmnlkfhheaaPRefx0
namespace Go.Proofs.Ytpgijmnlkfhheaa.PRef
open Go.RowKit Go.Proofs.YtpgijmnlkfhheaaW.PrintWords Go.Proofs.YtpgijmnlkfhheaaW.PrintLast Go.Proofs.YtpgijmnlkfhheaaW.PrintMore
attribute [local go_sem] max2_int min2_int max_two min_two max_three min_three max_four min_four   -- for this text's walks alone
set_option linter.unusedVariables false
set_option linter.unusedSimpArgs false

end Go.Proofs.Ytpgijmnlkfhheaa.PRef
namespace Go.Proofs.Ytpgijmnlkfhheaa.PRef
open Go.RowKit Go.Proofs.YtpgijmnlkfhheaaW.PrintWords Go.Proofs.YtpgijmnlkfhheaaW.PrintLast Go.Proofs.YtpgijmnlkfhheaaW.PrintMore
attribute [local go_sem] max2_int min2_int max_two min_two max_three min_three max_four min_four   -- for this text's walks alone
set_option linter.unusedVariables false
set_option linter.unusedSimpArgs false

end Go.Proofs.Ytpgijmnlkfhheaa.PRef
namespace Go.Proofs.Ytpgijmnlkfhheaa.PRef
open Go.RowKit Go.Proofs.YtpgijmnlkfhheaaW.PrintWords Go.Proofs.YtpgijmnlkfhheaaW.PrintLast Go.Proofs.YtpgijmnlkfhheaaW.PrintMore
attribute [local go_sem] max2_int min2_int max_two min_two max_three min_three max_four min_four   -- for this text's walks alone
set_option linter.unusedVariables false
set_option linter.unusedSimpArgs false

end Go.Proofs.Ytpgijmnlkfhheaa.PRef
namespace Go.Proofs.Ytpgijmnlkfhheaa.PRef
open Go.RowKit Go.Proofs.YtpgijmnlkfhheaaW.PrintWords Go.Proofs.YtpgijmnlkfhheaaW.PrintLast Go.Proofs.YtpgijmnlkfhheaaW.PrintMore
attribute [local go_sem] max2_int min2_int max_two min_two max_three min_three max_four min_four   -- for this text's walks alone
set_option linter.unusedVariables false
set_option linter.unusedSimpArgs false

end Go.Proofs.Ytpgijmnlkfhheaa.PRef
namespace Go.Proofs.Ytpgijmnlkfhheaa.PRef
open Go.RowKit Go.Proofs.YtpgijmnlkfhheaaW.PrintWords Go.Proofs.YtpgijmnlkfhheaaW.PrintLast Go.Proofs.YtpgijmnlkfhheaaW.PrintMore
attribute [local go_sem] max2_int min2_int max_two min_two max_three min_three max_four min_four   -- for this text's walks alone
set_option linter.unusedVariables false
set_option linter.unusedSimpArgs false

-- NOT PRINTED: function 44 (blake_firsts)

end Go.Proofs.Ytpgijmnlkfhheaa.PRef
namespace Go.Proofs.Ytpgijmnlkfhheaa.PRef
open Go.RowKit Go.Proofs.YtpgijmnlkfhheaaW.PrintWords Go.Proofs.YtpgijmnlkfhheaaW.PrintLast Go.Proofs.YtpgijmnlkfhheaaW.PrintMore
attribute [local go_sem] max2_int min2_int max_two min_two max_three min_three max_four min_four   -- for this text's walks alone
set_option linter.unusedVariables false
set_option linter.unusedSimpArgs false

-- NOT PRINTED: function 38 (blake_made)

end Go.Proofs.Ytpgijmnlkfhheaa.PRef
namespace Go.Proofs.Ytpgijmnlkfhheaa.PRef
open Go.RowKit Go.Proofs.YtpgijmnlkfhheaaW.PrintWords Go.Proofs.YtpgijmnlkfhheaaW.PrintLast Go.Proofs.YtpgijmnlkfhheaaW.PrintMore
attribute [local go_sem] max2_int min2_int max_two min_two max_three min_three max_four min_four   -- for this text's walks alone
set_option linter.unusedVariables false
set_option linter.unusedSimpArgs false

-- NOT PRINTED: function 33 (blake_New)

end Go.Proofs.Ytpgijmnlkfhheaa.PRef
namespace Go.Proofs.Ytpgijmnlkfhheaa.PRef
open Go.RowKit Go.Proofs.YtpgijmnlkfhheaaW.PrintWords Go.Proofs.YtpgijmnlkfhheaaW.PrintLast Go.Proofs.YtpgijmnlkfhheaaW.PrintMore
attribute [local go_sem] max2_int min2_int max_two min_two max_three min_three max_four min_four   -- for this text's walks alone
set_option linter.unusedVariables false
set_option linter.unusedSimpArgs false

-- NOT PRINTED: function 45 (blake_rows)

end Go.Proofs.Ytpgijmnlkfhheaa.PRef
namespace Go.Proofs.Ytpgijmnlkfhheaa.PRef
open Go.RowKit Go.Proofs.YtpgijmnlkfhheaaW.PrintWords Go.Proofs.YtpgijmnlkfhheaaW.PrintLast Go.Proofs.YtpgijmnlkfhheaaW.PrintMore
attribute [local go_sem] max2_int min2_int max_two min_two max_three min_three max_four min_four   -- for this text's walks alone
set_option linter.unusedVariables false
set_option linter.unusedSimpArgs false

-- NOT PRINTED: function 46 (blake_mixes)

end Go.Proofs.Ytpgijmnlkfhheaa.PRef
namespace Go.Proofs.Ytpgijmnlkfhheaa.PRef
open Go.RowKit Go.Proofs.YtpgijmnlkfhheaaW.PrintWords Go.Proofs.YtpgijmnlkfhheaaW.PrintLast Go.Proofs.YtpgijmnlkfhheaaW.PrintMore
attribute [local go_sem] max2_int min2_int max_two min_two max_three min_three max_four min_four   -- for this text's walks alone
set_option linter.unusedVariables false
set_option linter.unusedSimpArgs false

end Go.Proofs.Ytpgijmnlkfhheaa.PRef
namespace Go.Proofs.Ytpgijmnlkfhheaa.PRef
open Go.RowKit Go.Proofs.YtpgijmnlkfhheaaW.PrintWords Go.Proofs.YtpgijmnlkfhheaaW.PrintLast Go.Proofs.YtpgijmnlkfhheaaW.PrintMore
attribute [local go_sem] max2_int min2_int max_two min_two max_three min_three max_four min_four   -- for this text's walks alone
set_option linter.unusedVariables false
set_option linter.unusedSimpArgs false

-- NOT PRINTED: function 47 (blake_mix)

end Go.Proofs.Ytpgijmnlkfhheaa.PRef
namespace Go.Proofs.Ytpgijmnlkfhheaa.PRef
open Go.RowKit Go.Proofs.YtpgijmnlkfhheaaW.PrintWords Go.Proofs.YtpgijmnlkfhheaaW.PrintLast Go.Proofs.YtpgijmnlkfhheaaW.PrintMore
attribute [local go_sem] max2_int min2_int max_two min_two max_three min_three max_four min_four   -- for this text's walks alone
set_option linter.unusedVariables false
set_option linter.unusedSimpArgs false

-- NOT PRINTED: function 39 (blake_Hash_take)

end Go.Proofs.Ytpgijmnlkfhheaa.PRef
namespace Go.Proofs.Ytpgijmnlkfhheaa.PRef
open Go.RowKit Go.Proofs.YtpgijmnlkfhheaaW.PrintWords Go.Proofs.YtpgijmnlkfhheaaW.PrintLast Go.Proofs.YtpgijmnlkfhheaaW.PrintMore
attribute [local go_sem] max2_int min2_int max_two min_two max_three min_three max_four min_four   -- for this text's walks alone
set_option linter.unusedVariables false
set_option linter.unusedSimpArgs false

-- NOT PRINTED: function 34 (blake_Hash_add)

end Go.Proofs.Ytpgijmnlkfhheaa.PRef
namespace Go.Proofs.Ytpgijmnlkfhheaa.PRef
open Go.RowKit Go.Proofs.YtpgijmnlkfhheaaW.PrintWords Go.Proofs.YtpgijmnlkfhheaaW.PrintLast Go.Proofs.YtpgijmnlkfhheaaW.PrintMore
attribute [local go_sem] max2_int min2_int max_two min_two max_three min_three max_four min_four   -- for this text's walks alone
set_option linter.unusedVariables false
set_option linter.unusedSimpArgs false

-- NOT PRINTED: function 25 (strings_Builder_String)

end Go.Proofs.Ytpgijmnlkfhheaa.PRef
namespace Go.Proofs.Ytpgijmnlkfhheaa.PRef
open Go.RowKit Go.Proofs.YtpgijmnlkfhheaaW.PrintWords Go.Proofs.YtpgijmnlkfhheaaW.PrintLast Go.Proofs.YtpgijmnlkfhheaaW.PrintMore
attribute [local go_sem] max2_int min2_int max_two min_two max_three min_three max_four min_four   -- for this text's walks alone
set_option linter.unusedVariables false
set_option linter.unusedSimpArgs false

-- NOT PRINTED: function 40 (blake_Hash_Copy)

end Go.Proofs.Ytpgijmnlkfhheaa.PRef
namespace Go.Proofs.Ytpgijmnlkfhheaa.PRef
open Go.RowKit Go.Proofs.YtpgijmnlkfhheaaW.PrintWords Go.Proofs.YtpgijmnlkfhheaaW.PrintLast Go.Proofs.YtpgijmnlkfhheaaW.PrintMore
attribute [local go_sem] max2_int min2_int max_two min_two max_three min_three max_four min_four   -- for this text's walks alone
set_option linter.unusedVariables false
set_option linter.unusedSimpArgs false

-- NOT PRINTED: function 37 (abi_NoEscape)

end Go.Proofs.Ytpgijmnlkfhheaa.PRef
namespace Go.Proofs.Ytpgijmnlkfhheaa.PRef
open Go.RowKit Go.Proofs.YtpgijmnlkfhheaaW.PrintWords Go.Proofs.YtpgijmnlkfhheaaW.PrintLast Go.Proofs.YtpgijmnlkfhheaaW.PrintMore
attribute [local go_sem] max2_int min2_int max_two min_two max_three min_three max_four min_four   -- for this text's walks alone
set_option linter.unusedVariables false
set_option linter.unusedSimpArgs false

-- NOT PRINTED: function 30 (strings_Builder_copyCheck)

end Go.Proofs.Ytpgijmnlkfhheaa.PRef
namespace Go.Proofs.Ytpgijmnlkfhheaa.PRef
open Go.RowKit Go.Proofs.YtpgijmnlkfhheaaW.PrintWords Go.Proofs.YtpgijmnlkfhheaaW.PrintLast Go.Proofs.YtpgijmnlkfhheaaW.PrintMore
attribute [local go_sem] max2_int min2_int max_two min_two max_three min_three max_four min_four   -- for this text's walks alone
set_option linter.unusedVariables false
set_option linter.unusedSimpArgs false

-- NOT PRINTED: function 41 (strings_Builder_WriteByte)

end Go.Proofs.Ytpgijmnlkfhheaa.PRef
namespace Go.Proofs.Ytpgijmnlkfhheaa.PRef
open Go.RowKit Go.Proofs.YtpgijmnlkfhheaaW.PrintWords Go.Proofs.YtpgijmnlkfhheaaW.PrintLast Go.Proofs.YtpgijmnlkfhheaaW.PrintMore
attribute [local go_sem] max2_int min2_int max_two min_two max_three min_three max_four min_four   -- for this text's walks alone
set_option linter.unusedVariables false
set_option linter.unusedSimpArgs false

-- NOT PRINTED: function 35 (blake_Hash_Sum)

end Go.Proofs.Ytpgijmnlkfhheaa.PRef
