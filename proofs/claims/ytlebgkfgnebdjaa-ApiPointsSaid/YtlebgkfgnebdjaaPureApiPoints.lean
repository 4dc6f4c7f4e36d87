/- The pure statement of ApiPoints: points and spans are compared by their fields, over the printed function. No condition. -/
import Derived.Test.YtlebgkfgnebdjaaPApiPointsx1
namespace Go.Proofs.Ytlebgkfgnebdjaa.Pure
open Go.RowKit Go.Proofs.Ytlebgkfgnebdjaa.PApiPoints Go.Proofs.YtlebgkfgnebdjaaW.PrintWords Go.Proofs.YtlebgkfgnebdjaaW.PrintLast

/-- YOURS: fathomlaw0_ApiPoints.f  = some true
What it reaches (each with k first where it has rounds; `.mono`: more rounds tell the same; `.l0`, ..: its loops, with `.mono_l`): fathomlaw0_ApiPoints.f -/
theorem ApiPoints : fathomlaw0_ApiPoints.Pure := by
  unfold fathomlaw0_ApiPoints.Pure
  decide +kernel

end Go.Proofs.Ytlebgkfgnebdjaa.Pure
