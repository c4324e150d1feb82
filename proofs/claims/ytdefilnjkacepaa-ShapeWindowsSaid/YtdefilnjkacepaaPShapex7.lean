-- printed by wip/tools/xp.py of this project (not trusted: Lean checks it)
import Derived.Test.YtdefilnjkacepaaPShapex0
namespace Go.Proofs.Ytdefilnjkacepaa.PShape
open Go.RowKit Go.Proofs.YtdefilnjkacepaaW.PrintWords Go.Proofs.YtdefilnjkacepaaW.PrintLast Go.Proofs.YtdefilnjkacepaaW.PrintMore Go.Proofs.Ytdefilnjkacepaa.XW
attribute [local go_sem] max2_int min2_int max_two min_two max_three min_three max_four min_four max_five min_five   -- for this text's walks alone
set_option linter.unusedVariables false
set_option linter.unusedSimpArgs false

-- NOT PRINTED: function 39 (slices_Backward_shape_Shape_int_1)

-- NOT PRINTED: function 33 (slices_Backward_shape_Shape_int)

-- NOT PRINTED: function 22 (shape_Shape_At)

-- NOT PRINTED: function 7 (athanorlaw03_ShapePlaces)

-- NOT PRINTED: function 40 (shape_Shape_All_1)

-- NOT PRINTED: function 34 (shape_Shape_All)

-- NOT PRINTED: function 23 (athanorlaw03_none)

-- NOT PRINTED: function 35 (athanorref03_Next)

-- NOT PRINTED: function 24 (athanorlaw03_walk)

-- NOT PRINTED: function 8 (athanorlaw03_ShapeAll)

end Go.Proofs.Ytdefilnjkacepaa.PShape
