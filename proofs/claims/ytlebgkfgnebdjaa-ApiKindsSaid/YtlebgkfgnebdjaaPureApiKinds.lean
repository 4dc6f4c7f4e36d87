/- The pure statement of ApiKinds: classes, roundings and kinds of package api have the document's numbers, over the printed functions. No condition. -/
import Derived.Test.YtlebgkfgnebdjaaPApiKindsx1
namespace Go.Proofs.Ytlebgkfgnebdjaa.Pure
open Go.RowKit Go.Proofs.Ytlebgkfgnebdjaa.PApiKinds Go.Proofs.YtlebgkfgnebdjaaW.PrintWords Go.Proofs.YtlebgkfgnebdjaaW.PrintLast

/-- YOURS: ∃ k, fathomlaw0_ApiKinds.f k  = some true
What it reaches (each with k first where it has rounds; `.mono`: more rounds tell the same; `.l0`, ..: its loops, with `.mono_l`): fathomlaw0_same.f, fathomlaw0_ApiKinds.f -/
theorem ApiKinds : fathomlaw0_ApiKinds.Pure := ⟨256, by decide +kernel⟩

end Go.Proofs.Ytlebgkfgnebdjaa.Pure
