/- label.Set's contract in the print's own form. Its condition: fewer than 2^40 labels (else '.f' tells nothing). -/
import Derived.Test.YtkanfffbdegfoaaGreatDoorKD
namespace Go.Proofs.YtkanfffbdegfoaaGreatDoor.PD
set_option linter.unusedVariables false
set_option linter.unusedSimpArgs false
open Go.RowKit Go.Proofs.YtkanfffbdegfoaaGreatDoorW.PrintWords Go.Proofs.YtkanfffbdegfoaaGreatDoorW.PrintLast Go.Proofs.YtkanfffbdegfoaaGreatDoorW.PrintMore
set_option linter.unusedVariables false
def label_Set.f (l0 : List S130) : Option (List (S130) × Int) := if l0.length ≤ 1099511627776 then some (setL l0) else none
theorem label_Set.calls (A0 : Option Addr) (c0 : Nat) (l0 : List (S130)) (r1 : List (S130)) (r2 : Int) (w : World) (hr0 : Kd.C k130 w A0 l0.length l0) (hc0 : l0.length ≤ c0) (h : label_Set.f l0 = some (r1, r2)) :
    Calls Tryz.prog 51 #[.slice A0 l0.length c0] w fun e w' => ∃ v0_ : Value, e = .returned (.tuple #[v0_, .int .i64 r2]) ∧ Kd.R k130 130 w' w.heap.size (fun _ => True) v0_ r1 ∧ Below w.heap.size w w' := by
  rw [label_Set.f] at h
  split at h
  · rename_i hl
    have e := Option.some.inj h
    have := set_calls A0 c0 l0 w hr0 hc0 hl
    rw [e] at this
    exact this
  · cases h
end Go.Proofs.YtkanfffbdegfoaaGreatDoor.PD
