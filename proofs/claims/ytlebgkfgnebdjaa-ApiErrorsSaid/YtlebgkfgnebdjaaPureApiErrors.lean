/- The pure statement of ApiErrors: every error of package api has the document's number, over the printed functions. No condition. -/
import Derived.Test.YtlebgkfgnebdjaaPApiErrorsx2
namespace Go.Proofs.Ytlebgkfgnebdjaa.Pure
open Go.RowKit Go.Proofs.Ytlebgkfgnebdjaa.PApiErrors Go.Proofs.YtlebgkfgnebdjaaW.PrintWords Go.Proofs.YtlebgkfgnebdjaaW.PrintLast

/-- YOURS: ∃ k, fathomlaw0_ApiErrors.f k  = some true
What it reaches (each with k first where it has rounds; `.mono`: more rounds tell the same; `.l0`, ..: its loops, with `.mono_l`): fathomlaw0_same.f, fathomlaw0_num.f, fathomlaw0_errors1.f, fathomlaw0_errors2.f, fathomlaw0_errors3.f, fathomlaw0_errors4.f, fathomlaw0_errors5.f, fathomlaw0_ApiErrors.f -/
theorem ApiErrors : fathomlaw0_ApiErrors.Pure := ⟨64, by decide +kernel⟩

end Go.Proofs.Ytlebgkfgnebdjaa.Pure
