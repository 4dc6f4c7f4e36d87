/- The pure statement of ApiLimits: every limit and named pattern of package api has the document's number, over the printed functions. No condition. -/
import Derived.Test.YtlebgkfgnebdjaaPApiLimitsx1
namespace Go.Proofs.Ytlebgkfgnebdjaa.Pure
open Go.RowKit Go.Proofs.Ytlebgkfgnebdjaa.PApiLimits Go.Proofs.YtlebgkfgnebdjaaW.PrintWords Go.Proofs.YtlebgkfgnebdjaaW.PrintLast

/-- YOURS: ∃ k, fathomlaw0_ApiLimits.f k  = some true
What it reaches (each with k first where it has rounds; `.mono`: more rounds tell the same; `.l0`, ..: its loops, with `.mono_l`): fathomlaw0_same.f, fathomlaw0_ApiLimits.f -/
theorem ApiLimits : fathomlaw0_ApiLimits.Pure := ⟨64, by decide +kernel⟩

end Go.Proofs.Ytlebgkfgnebdjaa.Pure
