-- WRITTEN BY A PROGRAM of this session, over the kit's print
import Derived.Test.YtlebgkfgnebdjaaPApiKindsx0
namespace Go.Proofs.Ytlebgkfgnebdjaa.PApiKinds
open Go.RowKit Go.Proofs.YtlebgkfgnebdjaaW.PrintWords Go.Proofs.YtlebgkfgnebdjaaW.PrintLast Go.Proofs.YtlebgkfgnebdjaaW.PrintMore
attribute [local go_sem] max2_int min2_int max_two min_two max_three min_three max_four min_four   -- for this text's walks alone
set_option linter.unusedVariables false
set_option linter.unusedSimpArgs false

/-! ### fathomlaw0_same: function 7 -/
def fathomlaw0_same.l0 : Nat → List (S28) → Int → Option (Bool)
  | 0, _, _ => none
  | k + 1, x0, x3 => if x3 < (x0.length : Int) then (if 0 ≤ x3 then (if ((rd_T28 x0 x3).f0) = ((rd_T28 x0 x3).f1) then (fathomlaw0_same.l0 k x0 (wrap64 (x3 + 1))) else (some false)) else (none)) else (some true)
def fathomlaw0_same.f (k : Nat) (l0 : List (S28)) : Option (Bool) := fathomlaw0_same.l0 k l0 0
theorem fathomlaw0_same.mono_l : ∀ k, (∀ y0 y1, LeO (fathomlaw0_same.l0 k y0 y1) (fathomlaw0_same.l0 (k + 1) y0 y1))
  | 0 => fun _ _ r h => by simp [fathomlaw0_same.l0] at h
  | k + 1 => by
    have ih0 := fathomlaw0_same.mono_l k
    · intro y0 y1
      unfold fathomlaw0_same.l0
      repeat' first
      | (with_reducible exact ih0 _ _)
      | (with_reducible exact LeO.refl _)
      | (with_reducible exact LeO.none _)
      | (with_reducible refine LeO.ite ?_ ?_)
      | (with_reducible refine LeO.bind ?_ (fun _ => ?_))
      | exact ih0 _ _
      | exact LeO.none _
      | refine LeO.ite ?_ ?_
      | refine LeO.bind ?_ (fun _ => ?_)
theorem fathomlaw0_same.mono : ∀ a0 k, LeO (fathomlaw0_same.f k a0) (fathomlaw0_same.f (k + 1) a0) := by
  intro a0 k
  have ih0 := fathomlaw0_same.mono_l k
  unfold fathomlaw0_same.f
  repeat' first
      | (with_reducible exact ih0 _ _)
      | (with_reducible exact LeO.refl _)
      | (with_reducible exact LeO.none _)
      | (with_reducible refine LeO.ite ?_ ?_)
      | (with_reducible refine LeO.bind ?_ (fun _ => ?_))
      | exact ih0 _ _
      | exact LeO.none _
      | refine LeO.ite ?_ ?_
      | refine LeO.bind ?_ (fun _ => ?_)
set_option maxHeartbeats 8000000 in
set_option maxRecDepth 100000 in
theorem fathomlaw0_same.calls (k : Nat) (A0 : Option Addr) (c0 : Nat) (l0 : List (S28)) (r : Bool) (w : World) (hr0 : Kd.C k28 w A0 l0.length l0) (hc0 : l0.length ≤ c0) (h : fathomlaw0_same.f k l0 = some r) :
    Calls Try.prog 7 #[.slice A0 l0.length c0] w fun e w' => e = .returned (.bool r) ∧ Drawn0 w w' := by
  have HR0 := Aside0.mk hr0
  have HC0 := Aside0.mk hc0
  clear hr0 hc0
  have H : (fathomlaw0_same.l0 k l0 0) = some r := h
  clear h
  have H' := Aside0.mk H
  clear H
  go_enter Try.func7, Try.ntmps7
  go_wp2
  repeat (go_quiet (fail); try go_wp2)
  go_loopg [3] k (fun kq v3 w' => ∃ (x3_1 : Int), v3 = .int .i64 x3_1 ∧ Aside0 (fathomlaw0_same.l0 kq l0 x3_1 = some r) ∧ Aside0 (kq ≤ k) ∧ Drawn0 w w')
  case atStart => exact ⟨(0), (by first | rfl | (simp; done) | (simp [*]; done)), H', ⟨Nat.le_refl _⟩, by repeat (first | exact Drawn0.refl _ | apply Drawn0.step)⟩
  case round =>
    clear H'
    obtain ⟨x3_1, rfl, HA, HK1, ⟨m1, rfl⟩⟩ := hrel
    cases gk with
    | zero => exact absurd HA.out (by simp [fathomlaw0_same.l0])
    | succ k1 =>
      have H := HA.out
      clear HA
      simp only [fathomlaw0_same.l0] at H
      by_cases c2 : x3_1 < (l0.length : Int)
      · rw [if_pos c2] at H
        have c2b0 : decide (x3_1 < (l0.length : Int)) = true := decide_eq_true c2
        clear c2
        by_cases c3 : 0 ≤ x3_1
        · rw [if_pos c3] at H
          have c3b0 : decide (0 ≤ x3_1) = true := decide_eq_true c3
          clear c3
          by_cases c4 : ((rd_T28 l0 x3_1).f0) = ((rd_T28 l0 x3_1).f1)
          · rw [if_pos c4] at H
            have c4b0 : (((rd_T28 l0 x3_1).f0) == ((rd_T28 l0 x3_1).f1)) = true := beq_iff_eq.mpr c4
            have c4b1 : (((rd_T28 l0 x3_1).f0) != ((rd_T28 l0 x3_1).f1)) = false := bne_eq_false_iff_eq.mpr c4
            clear c4
            have H' := Aside0.mk H
            clear H
            have p101 : 0 ≤ (x3_1 : Int) := of_decide_eq_true (by first | (with_reducible assumption) | assumption)
            have q101 : x3_1 < (l0.length : Int) := of_decide_eq_true (by first | (with_reducible assumption) | assumption)
            obtain ⟨ad101, e101, hx101_0, hx101_1⟩ := at_T28 HR0.out x3_1 p101 q101
            cases e101
            replace p101 := eq_true p101
            replace q101 := eq_true q101
            have p102 : 0 ≤ (x3_1 : Int) := of_decide_eq_true (by first | (with_reducible assumption) | assumption)
            have q102 : x3_1 < (l0.length : Int) := of_decide_eq_true (by first | (with_reducible assumption) | assumption)
            obtain ⟨ad102, e102, hx102_0, hx102_1⟩ := at_T28 HR0.out x3_1 p102 q102
            obtain rfl : ad101 = ad102 := (by injection e102)
            replace p102 := eq_true p102
            replace q102 := eq_true q102
            go_wp2
            repeat (go_quiet (fail); try go_wp2)
            go_roundg k1
            case measure => have := HK1.out; omega
            case rel => exact ⟨(wrap64 (x3_1 + 1)), (by first | rfl | (simp; done) | (simp [*]; done)), H', ⟨by have := HK1.out; omega⟩, by repeat (first | exact Drawn0.refl _ | apply Drawn0.step)⟩
          · rw [if_neg c4] at H
            have c4b0 : (((rd_T28 l0 x3_1).f0) == ((rd_T28 l0 x3_1).f1)) = false := beq_eq_false_iff_ne.mpr c4
            have c4b1 : (((rd_T28 l0 x3_1).f0) != ((rd_T28 l0 x3_1).f1)) = true := bne_iff_ne.mpr c4
            obtain rfl := Option.some.inj H
            have p101 : 0 ≤ (x3_1 : Int) := of_decide_eq_true (by first | (with_reducible assumption) | assumption)
            have q101 : x3_1 < (l0.length : Int) := of_decide_eq_true (by first | (with_reducible assumption) | assumption)
            obtain ⟨ad101, e101, hx101_0, hx101_1⟩ := at_T28 HR0.out x3_1 p101 q101
            cases e101
            replace p101 := eq_true p101
            replace q101 := eq_true q101
            have p102 : 0 ≤ (x3_1 : Int) := of_decide_eq_true (by first | (with_reducible assumption) | assumption)
            have q102 : x3_1 < (l0.length : Int) := of_decide_eq_true (by first | (with_reducible assumption) | assumption)
            obtain ⟨ad102, e102, hx102_0, hx102_1⟩ := at_T28 HR0.out x3_1 p102 q102
            obtain rfl : ad101 = ad102 := (by injection e102)
            replace p102 := eq_true p102
            replace q102 := eq_true q102
            go_wp2
            repeat (go_quiet (fail); try go_wp2)
            go_ret
            exact ⟨by first | rfl | (simp; done) | (simp [*]; done), by repeat (first | exact Drawn0.refl _ | apply Drawn0.step)⟩
        · rw [if_neg c3] at H
          exact absurd H (by simp)
      · rw [if_neg c2] at H
        have c2b0 : decide (x3_1 < (l0.length : Int)) = false := decide_eq_false c2
        clear c2
        obtain rfl := Option.some.inj H
        go_wp2
        repeat (go_quiet (fail); try go_wp2)
        go_ret
        exact ⟨by first | rfl | (simp; done) | (simp [*]; done), by repeat (first | exact Drawn0.refl _ | apply Drawn0.step)⟩

/-! ### fathomlaw0_ApiKinds: function 5 -/
def fathomlaw0_ApiKinds.f (k : Nat)  : Option (Bool) := (fathomlaw0_same.f k (([(⟨0, 0⟩ : S28), (⟨1, 1⟩ : S28), (⟨2, 2⟩ : S28), (⟨3, 3⟩ : S28), (⟨4, 4⟩ : S28), (⟨5, 5⟩ : S28), (⟨0, 0⟩ : S28), (⟨1, 1⟩ : S28), (⟨2, 2⟩ : S28), (⟨3, 3⟩ : S28), (⟨4, 4⟩ : S28), (⟨0, 0⟩ : S28), (⟨1, 1⟩ : S28), (⟨2, 2⟩ : S28), (⟨0, 0⟩ : S28), (⟨1, 1⟩ : S28), (⟨2, 2⟩ : S28), (⟨3, 3⟩ : S28), (⟨4, 4⟩ : S28), (⟨0, 0⟩ : S28), (⟨1, 1⟩ : S28), (⟨2, 2⟩ : S28), (⟨3, 3⟩ : S28), (⟨4, 4⟩ : S28), (⟨5, 5⟩ : S28), (⟨6, 6⟩ : S28), (⟨7, 7⟩ : S28), (⟨8, 8⟩ : S28), (⟨9, 9⟩ : S28), (⟨10, 10⟩ : S28), (⟨11, 11⟩ : S28), (⟨12, 12⟩ : S28), (⟨13, 13⟩ : S28), (⟨14, 14⟩ : S28), (⟨15, 15⟩ : S28), (⟨16, 16⟩ : S28), (⟨0, 0⟩ : S28), (⟨1, 1⟩ : S28), (⟨2, 2⟩ : S28), (⟨3, 3⟩ : S28), (⟨4, 4⟩ : S28), (⟨5, 5⟩ : S28), (⟨6, 6⟩ : S28), (⟨7, 7⟩ : S28), (⟨8, 8⟩ : S28), (⟨9, 9⟩ : S28), (⟨10, 10⟩ : S28), (⟨11, 11⟩ : S28), (⟨12, 12⟩ : S28), (⟨13, 13⟩ : S28), (⟨14, 14⟩ : S28), (⟨15, 15⟩ : S28), (⟨16, 16⟩ : S28), (⟨17, 17⟩ : S28), (⟨18, 18⟩ : S28), (⟨19, 19⟩ : S28), (⟨20, 20⟩ : S28), (⟨21, 21⟩ : S28), (⟨0, 0⟩ : S28), (⟨1, 1⟩ : S28), (⟨2, 2⟩ : S28), (⟨3, 3⟩ : S28), (⟨4, 4⟩ : S28), (⟨5, 5⟩ : S28), (⟨6, 6⟩ : S28), (⟨7, 7⟩ : S28), (⟨8, 8⟩ : S28), (⟨9, 9⟩ : S28), (⟨10, 10⟩ : S28), (⟨0, 0⟩ : S28), (⟨1, 1⟩ : S28), (⟨2, 2⟩ : S28), (⟨3, 3⟩ : S28), (⟨4, 4⟩ : S28), (⟨5, 5⟩ : S28), (⟨6, 6⟩ : S28), (⟨7, 7⟩ : S28), (⟨8, 8⟩ : S28), (⟨9, 9⟩ : S28), (⟨10, 10⟩ : S28), (⟨11, 11⟩ : S28), (⟨12, 12⟩ : S28), (⟨13, 13⟩ : S28), (⟨14, 14⟩ : S28), (⟨0, 0⟩ : S28), (⟨1, 1⟩ : S28), (⟨2, 2⟩ : S28), (⟨3, 3⟩ : S28), (⟨0, 0⟩ : S28), (⟨1, 1⟩ : S28), (⟨2, 2⟩ : S28), (⟨3, 3⟩ : S28), (⟨4, 4⟩ : S28), (⟨0, 0⟩ : S28), (⟨1, 1⟩ : S28), (⟨2, 2⟩ : S28), (⟨3, 3⟩ : S28), (⟨4, 4⟩ : S28), (⟨5, 5⟩ : S28), (⟨6, 6⟩ : S28), (⟨7, 7⟩ : S28), (⟨8, 8⟩ : S28), (⟨9, 9⟩ : S28), (⟨10, 10⟩ : S28), (⟨11, 11⟩ : S28), (⟨12, 12⟩ : S28), (⟨13, 13⟩ : S28), (⟨14, 14⟩ : S28), (⟨15, 15⟩ : S28), (⟨16, 16⟩ : S28), (⟨17, 17⟩ : S28), (⟨18, 18⟩ : S28), (⟨19, 19⟩ : S28), (⟨20, 20⟩ : S28), (⟨21, 21⟩ : S28), (⟨22, 22⟩ : S28), (⟨23, 23⟩ : S28), (⟨0, 0⟩ : S28), (⟨1, 1⟩ : S28), (⟨2, 2⟩ : S28), (⟨3, 3⟩ : S28), (⟨4, 4⟩ : S28), (⟨5, 5⟩ : S28), (⟨0, 0⟩ : S28), (⟨1, 1⟩ : S28), (⟨2, 2⟩ : S28), (⟨3, 3⟩ : S28), (⟨4, 4⟩ : S28), (⟨5, 5⟩ : S28), (⟨6, 6⟩ : S28)] : List (S28)))).bind fun t106 => (some t106)
theorem fathomlaw0_ApiKinds.mono : ∀ k, LeO (fathomlaw0_ApiKinds.f k ) (fathomlaw0_ApiKinds.f (k + 1) ) := by
  intro  k
  unfold fathomlaw0_ApiKinds.f
  repeat' first
      | (with_reducible exact fathomlaw0_same.mono _ _)
      | (with_reducible exact LeO.refl _)
      | (with_reducible exact LeO.none _)
      | (with_reducible refine LeO.ite ?_ ?_)
      | (with_reducible refine LeO.bind ?_ (fun _ => ?_))
      | exact fathomlaw0_same.mono _ _
      | exact LeO.none _
      | refine LeO.ite ?_ ?_
      | refine LeO.bind ?_ (fun _ => ?_)
/-- A goal that the walk doesn't look into. -/
structure StopB (p : Prop) : Prop where mk :: (out : p)
theorem stopB_ {p : Prop} (h : StopB p) : p := h.out
set_option maxHeartbeats 8000000 in
set_option maxRecDepth 100000 in
theorem fathomlaw0_ApiKinds.calls (k : Nat)  (r : Bool) (w : World) (h : fathomlaw0_ApiKinds.f k  = some r) :
    Calls Try.prog 5 #[] w fun e w' => e = .returned (.bool r) ∧ Below w.heap.size w w' := by
  have hu28 := Try.underlying28
  have HB := Aside0.mk (Below.refl w.heap.size w)
  have H : ((fathomlaw0_same.f k (([(⟨0, 0⟩ : S28), (⟨1, 1⟩ : S28), (⟨2, 2⟩ : S28), (⟨3, 3⟩ : S28), (⟨4, 4⟩ : S28), (⟨5, 5⟩ : S28), (⟨0, 0⟩ : S28), (⟨1, 1⟩ : S28), (⟨2, 2⟩ : S28), (⟨3, 3⟩ : S28), (⟨4, 4⟩ : S28), (⟨0, 0⟩ : S28), (⟨1, 1⟩ : S28), (⟨2, 2⟩ : S28), (⟨0, 0⟩ : S28), (⟨1, 1⟩ : S28), (⟨2, 2⟩ : S28), (⟨3, 3⟩ : S28), (⟨4, 4⟩ : S28), (⟨0, 0⟩ : S28), (⟨1, 1⟩ : S28), (⟨2, 2⟩ : S28), (⟨3, 3⟩ : S28), (⟨4, 4⟩ : S28), (⟨5, 5⟩ : S28), (⟨6, 6⟩ : S28), (⟨7, 7⟩ : S28), (⟨8, 8⟩ : S28), (⟨9, 9⟩ : S28), (⟨10, 10⟩ : S28), (⟨11, 11⟩ : S28), (⟨12, 12⟩ : S28), (⟨13, 13⟩ : S28), (⟨14, 14⟩ : S28), (⟨15, 15⟩ : S28), (⟨16, 16⟩ : S28), (⟨0, 0⟩ : S28), (⟨1, 1⟩ : S28), (⟨2, 2⟩ : S28), (⟨3, 3⟩ : S28), (⟨4, 4⟩ : S28), (⟨5, 5⟩ : S28), (⟨6, 6⟩ : S28), (⟨7, 7⟩ : S28), (⟨8, 8⟩ : S28), (⟨9, 9⟩ : S28), (⟨10, 10⟩ : S28), (⟨11, 11⟩ : S28), (⟨12, 12⟩ : S28), (⟨13, 13⟩ : S28), (⟨14, 14⟩ : S28), (⟨15, 15⟩ : S28), (⟨16, 16⟩ : S28), (⟨17, 17⟩ : S28), (⟨18, 18⟩ : S28), (⟨19, 19⟩ : S28), (⟨20, 20⟩ : S28), (⟨21, 21⟩ : S28), (⟨0, 0⟩ : S28), (⟨1, 1⟩ : S28), (⟨2, 2⟩ : S28), (⟨3, 3⟩ : S28), (⟨4, 4⟩ : S28), (⟨5, 5⟩ : S28), (⟨6, 6⟩ : S28), (⟨7, 7⟩ : S28), (⟨8, 8⟩ : S28), (⟨9, 9⟩ : S28), (⟨10, 10⟩ : S28), (⟨0, 0⟩ : S28), (⟨1, 1⟩ : S28), (⟨2, 2⟩ : S28), (⟨3, 3⟩ : S28), (⟨4, 4⟩ : S28), (⟨5, 5⟩ : S28), (⟨6, 6⟩ : S28), (⟨7, 7⟩ : S28), (⟨8, 8⟩ : S28), (⟨9, 9⟩ : S28), (⟨10, 10⟩ : S28), (⟨11, 11⟩ : S28), (⟨12, 12⟩ : S28), (⟨13, 13⟩ : S28), (⟨14, 14⟩ : S28), (⟨0, 0⟩ : S28), (⟨1, 1⟩ : S28), (⟨2, 2⟩ : S28), (⟨3, 3⟩ : S28), (⟨0, 0⟩ : S28), (⟨1, 1⟩ : S28), (⟨2, 2⟩ : S28), (⟨3, 3⟩ : S28), (⟨4, 4⟩ : S28), (⟨0, 0⟩ : S28), (⟨1, 1⟩ : S28), (⟨2, 2⟩ : S28), (⟨3, 3⟩ : S28), (⟨4, 4⟩ : S28), (⟨5, 5⟩ : S28), (⟨6, 6⟩ : S28), (⟨7, 7⟩ : S28), (⟨8, 8⟩ : S28), (⟨9, 9⟩ : S28), (⟨10, 10⟩ : S28), (⟨11, 11⟩ : S28), (⟨12, 12⟩ : S28), (⟨13, 13⟩ : S28), (⟨14, 14⟩ : S28), (⟨15, 15⟩ : S28), (⟨16, 16⟩ : S28), (⟨17, 17⟩ : S28), (⟨18, 18⟩ : S28), (⟨19, 19⟩ : S28), (⟨20, 20⟩ : S28), (⟨21, 21⟩ : S28), (⟨22, 22⟩ : S28), (⟨23, 23⟩ : S28), (⟨0, 0⟩ : S28), (⟨1, 1⟩ : S28), (⟨2, 2⟩ : S28), (⟨3, 3⟩ : S28), (⟨4, 4⟩ : S28), (⟨5, 5⟩ : S28), (⟨0, 0⟩ : S28), (⟨1, 1⟩ : S28), (⟨2, 2⟩ : S28), (⟨3, 3⟩ : S28), (⟨4, 4⟩ : S28), (⟨5, 5⟩ : S28), (⟨6, 6⟩ : S28)] : List (S28)))).bind fun t106 => (some t106)) = some r := h
  clear h
  obtain ⟨y103, hy103⟩ : ∃ y_ : List (S28), y_ = (([(⟨0, 0⟩ : S28), (⟨1, 1⟩ : S28), (⟨2, 2⟩ : S28), (⟨3, 3⟩ : S28), (⟨4, 4⟩ : S28), (⟨5, 5⟩ : S28), (⟨0, 0⟩ : S28), (⟨1, 1⟩ : S28), (⟨2, 2⟩ : S28), (⟨3, 3⟩ : S28), (⟨4, 4⟩ : S28), (⟨0, 0⟩ : S28), (⟨1, 1⟩ : S28), (⟨2, 2⟩ : S28), (⟨0, 0⟩ : S28), (⟨1, 1⟩ : S28), (⟨2, 2⟩ : S28), (⟨3, 3⟩ : S28), (⟨4, 4⟩ : S28), (⟨0, 0⟩ : S28), (⟨1, 1⟩ : S28), (⟨2, 2⟩ : S28), (⟨3, 3⟩ : S28), (⟨4, 4⟩ : S28), (⟨5, 5⟩ : S28), (⟨6, 6⟩ : S28), (⟨7, 7⟩ : S28), (⟨8, 8⟩ : S28), (⟨9, 9⟩ : S28), (⟨10, 10⟩ : S28), (⟨11, 11⟩ : S28), (⟨12, 12⟩ : S28), (⟨13, 13⟩ : S28), (⟨14, 14⟩ : S28), (⟨15, 15⟩ : S28), (⟨16, 16⟩ : S28), (⟨0, 0⟩ : S28), (⟨1, 1⟩ : S28), (⟨2, 2⟩ : S28), (⟨3, 3⟩ : S28), (⟨4, 4⟩ : S28), (⟨5, 5⟩ : S28), (⟨6, 6⟩ : S28), (⟨7, 7⟩ : S28), (⟨8, 8⟩ : S28), (⟨9, 9⟩ : S28), (⟨10, 10⟩ : S28), (⟨11, 11⟩ : S28), (⟨12, 12⟩ : S28), (⟨13, 13⟩ : S28), (⟨14, 14⟩ : S28), (⟨15, 15⟩ : S28), (⟨16, 16⟩ : S28), (⟨17, 17⟩ : S28), (⟨18, 18⟩ : S28), (⟨19, 19⟩ : S28), (⟨20, 20⟩ : S28), (⟨21, 21⟩ : S28), (⟨0, 0⟩ : S28), (⟨1, 1⟩ : S28), (⟨2, 2⟩ : S28), (⟨3, 3⟩ : S28), (⟨4, 4⟩ : S28), (⟨5, 5⟩ : S28), (⟨6, 6⟩ : S28), (⟨7, 7⟩ : S28), (⟨8, 8⟩ : S28), (⟨9, 9⟩ : S28), (⟨10, 10⟩ : S28), (⟨0, 0⟩ : S28), (⟨1, 1⟩ : S28), (⟨2, 2⟩ : S28), (⟨3, 3⟩ : S28), (⟨4, 4⟩ : S28), (⟨5, 5⟩ : S28), (⟨6, 6⟩ : S28), (⟨7, 7⟩ : S28), (⟨8, 8⟩ : S28), (⟨9, 9⟩ : S28), (⟨10, 10⟩ : S28), (⟨11, 11⟩ : S28), (⟨12, 12⟩ : S28), (⟨13, 13⟩ : S28), (⟨14, 14⟩ : S28), (⟨0, 0⟩ : S28), (⟨1, 1⟩ : S28), (⟨2, 2⟩ : S28), (⟨3, 3⟩ : S28), (⟨0, 0⟩ : S28), (⟨1, 1⟩ : S28), (⟨2, 2⟩ : S28), (⟨3, 3⟩ : S28), (⟨4, 4⟩ : S28), (⟨0, 0⟩ : S28), (⟨1, 1⟩ : S28), (⟨2, 2⟩ : S28), (⟨3, 3⟩ : S28), (⟨4, 4⟩ : S28), (⟨5, 5⟩ : S28), (⟨6, 6⟩ : S28), (⟨7, 7⟩ : S28), (⟨8, 8⟩ : S28), (⟨9, 9⟩ : S28), (⟨10, 10⟩ : S28), (⟨11, 11⟩ : S28), (⟨12, 12⟩ : S28), (⟨13, 13⟩ : S28), (⟨14, 14⟩ : S28), (⟨15, 15⟩ : S28), (⟨16, 16⟩ : S28), (⟨17, 17⟩ : S28), (⟨18, 18⟩ : S28), (⟨19, 19⟩ : S28), (⟨20, 20⟩ : S28), (⟨21, 21⟩ : S28), (⟨22, 22⟩ : S28), (⟨23, 23⟩ : S28), (⟨0, 0⟩ : S28), (⟨1, 1⟩ : S28), (⟨2, 2⟩ : S28), (⟨3, 3⟩ : S28), (⟨4, 4⟩ : S28), (⟨5, 5⟩ : S28), (⟨0, 0⟩ : S28), (⟨1, 1⟩ : S28), (⟨2, 2⟩ : S28), (⟨3, 3⟩ : S28), (⟨4, 4⟩ : S28), (⟨5, 5⟩ : S28), (⟨6, 6⟩ : S28)] : List (S28))) := ⟨_, rfl⟩
  replace H : ((fathomlaw0_same.f k y103).bind fun t106 => (some t106)) = some r := by first | (rw [hy103]; with_reducible exact H) | (have H2_ := (Option.bind_some _ _).symm.trans H; rw [hy103]; with_reducible exact H2_) | (have H2_ := (Option.bind_some _ _).symm.trans H; with_reducible exact H2_) | with_reducible exact H | (rw [hy103]; exact H) | exact H
  have Ny103 := Aside0.mk hy103
  clear hy103
  replace H := Option.bind_eq_some_iff.mp H
  obtain ⟨t106, A10, H⟩ := H
  replace H : (some t106) = some r := H
  have A1 := Aside0.mk A10
  clear A10
  obtain rfl := Option.some.inj H
  go_enter Try.func5, Try.ntmps5
  simp only [List.append_eq, List.cons_append, List.nil_append]
  go_wp2_with ((with_reducible refine gate_dst (N := 131) rfl ?_); refine stopB_ ?_)
  refine StopB.mk ?_
  refine Kd.R_lit k28 _ 28 ?_ (N := 131) ?_ (xs := ([(⟨0, 0⟩ : S28), (⟨1, 1⟩ : S28), (⟨2, 2⟩ : S28), (⟨3, 3⟩ : S28), (⟨4, 4⟩ : S28), (⟨5, 5⟩ : S28), (⟨0, 0⟩ : S28), (⟨1, 1⟩ : S28), (⟨2, 2⟩ : S28), (⟨3, 3⟩ : S28), (⟨4, 4⟩ : S28), (⟨0, 0⟩ : S28), (⟨1, 1⟩ : S28), (⟨2, 2⟩ : S28), (⟨0, 0⟩ : S28), (⟨1, 1⟩ : S28), (⟨2, 2⟩ : S28), (⟨3, 3⟩ : S28), (⟨4, 4⟩ : S28), (⟨0, 0⟩ : S28), (⟨1, 1⟩ : S28), (⟨2, 2⟩ : S28), (⟨3, 3⟩ : S28), (⟨4, 4⟩ : S28), (⟨5, 5⟩ : S28), (⟨6, 6⟩ : S28), (⟨7, 7⟩ : S28), (⟨8, 8⟩ : S28), (⟨9, 9⟩ : S28), (⟨10, 10⟩ : S28), (⟨11, 11⟩ : S28), (⟨12, 12⟩ : S28), (⟨13, 13⟩ : S28), (⟨14, 14⟩ : S28), (⟨15, 15⟩ : S28), (⟨16, 16⟩ : S28), (⟨0, 0⟩ : S28), (⟨1, 1⟩ : S28), (⟨2, 2⟩ : S28), (⟨3, 3⟩ : S28), (⟨4, 4⟩ : S28), (⟨5, 5⟩ : S28), (⟨6, 6⟩ : S28), (⟨7, 7⟩ : S28), (⟨8, 8⟩ : S28), (⟨9, 9⟩ : S28), (⟨10, 10⟩ : S28), (⟨11, 11⟩ : S28), (⟨12, 12⟩ : S28), (⟨13, 13⟩ : S28), (⟨14, 14⟩ : S28), (⟨15, 15⟩ : S28), (⟨16, 16⟩ : S28), (⟨17, 17⟩ : S28), (⟨18, 18⟩ : S28), (⟨19, 19⟩ : S28), (⟨20, 20⟩ : S28), (⟨21, 21⟩ : S28), (⟨0, 0⟩ : S28), (⟨1, 1⟩ : S28), (⟨2, 2⟩ : S28), (⟨3, 3⟩ : S28), (⟨4, 4⟩ : S28), (⟨5, 5⟩ : S28), (⟨6, 6⟩ : S28), (⟨7, 7⟩ : S28), (⟨8, 8⟩ : S28), (⟨9, 9⟩ : S28), (⟨10, 10⟩ : S28), (⟨0, 0⟩ : S28), (⟨1, 1⟩ : S28), (⟨2, 2⟩ : S28), (⟨3, 3⟩ : S28), (⟨4, 4⟩ : S28), (⟨5, 5⟩ : S28), (⟨6, 6⟩ : S28), (⟨7, 7⟩ : S28), (⟨8, 8⟩ : S28), (⟨9, 9⟩ : S28), (⟨10, 10⟩ : S28), (⟨11, 11⟩ : S28), (⟨12, 12⟩ : S28), (⟨13, 13⟩ : S28), (⟨14, 14⟩ : S28), (⟨0, 0⟩ : S28), (⟨1, 1⟩ : S28), (⟨2, 2⟩ : S28), (⟨3, 3⟩ : S28), (⟨0, 0⟩ : S28), (⟨1, 1⟩ : S28), (⟨2, 2⟩ : S28), (⟨3, 3⟩ : S28), (⟨4, 4⟩ : S28), (⟨0, 0⟩ : S28), (⟨1, 1⟩ : S28), (⟨2, 2⟩ : S28), (⟨3, 3⟩ : S28), (⟨4, 4⟩ : S28), (⟨5, 5⟩ : S28), (⟨6, 6⟩ : S28), (⟨7, 7⟩ : S28), (⟨8, 8⟩ : S28), (⟨9, 9⟩ : S28), (⟨10, 10⟩ : S28), (⟨11, 11⟩ : S28), (⟨12, 12⟩ : S28), (⟨13, 13⟩ : S28), (⟨14, 14⟩ : S28), (⟨15, 15⟩ : S28), (⟨16, 16⟩ : S28), (⟨17, 17⟩ : S28), (⟨18, 18⟩ : S28), (⟨19, 19⟩ : S28), (⟨20, 20⟩ : S28), (⟨21, 21⟩ : S28), (⟨22, 22⟩ : S28), (⟨23, 23⟩ : S28), (⟨0, 0⟩ : S28), (⟨1, 1⟩ : S28), (⟨2, 2⟩ : S28), (⟨3, 3⟩ : S28), (⟨4, 4⟩ : S28), (⟨5, 5⟩ : S28), (⟨0, 0⟩ : S28), (⟨1, 1⟩ : S28), (⟨2, 2⟩ : S28), (⟨3, 3⟩ : S28), (⟨4, 4⟩ : S28), (⟨5, 5⟩ : S28), (⟨6, 6⟩ : S28)] : List (S28))) (inner := [.int .u64 0, .int .u64 0, .int .u64 1, .int .u64 1, .int .u64 2, .int .u64 2, .int .u64 3, .int .u64 3, .int .u64 4, .int .u64 4, .int .u64 5, .int .u64 5, .int .u64 0, .int .u64 0, .int .u64 1, .int .u64 1, .int .u64 2, .int .u64 2, .int .u64 3, .int .u64 3, .int .u64 4, .int .u64 4, .int .u64 0, .int .u64 0, .int .u64 1, .int .u64 1, .int .u64 2, .int .u64 2, .int .u64 0, .int .u64 0, .int .u64 1, .int .u64 1, .int .u64 2, .int .u64 2, .int .u64 3, .int .u64 3, .int .u64 4, .int .u64 4, .int .u64 0, .int .u64 0, .int .u64 1, .int .u64 1, .int .u64 2, .int .u64 2, .int .u64 3, .int .u64 3, .int .u64 4, .int .u64 4, .int .u64 5, .int .u64 5, .int .u64 6, .int .u64 6, .int .u64 7, .int .u64 7, .int .u64 8, .int .u64 8, .int .u64 9, .int .u64 9, .int .u64 10, .int .u64 10, .int .u64 11, .int .u64 11, .int .u64 12, .int .u64 12, .int .u64 13, .int .u64 13, .int .u64 14, .int .u64 14, .int .u64 15, .int .u64 15, .int .u64 16, .int .u64 16, .int .u64 0, .int .u64 0, .int .u64 1, .int .u64 1, .int .u64 2, .int .u64 2, .int .u64 3, .int .u64 3, .int .u64 4, .int .u64 4, .int .u64 5, .int .u64 5, .int .u64 6, .int .u64 6, .int .u64 7, .int .u64 7, .int .u64 8, .int .u64 8, .int .u64 9, .int .u64 9, .int .u64 10, .int .u64 10, .int .u64 11, .int .u64 11, .int .u64 12, .int .u64 12, .int .u64 13, .int .u64 13, .int .u64 14, .int .u64 14, .int .u64 15, .int .u64 15, .int .u64 16, .int .u64 16, .int .u64 17, .int .u64 17, .int .u64 18, .int .u64 18, .int .u64 19, .int .u64 19, .int .u64 20, .int .u64 20, .int .u64 21, .int .u64 21, .int .u64 0, .int .u64 0, .int .u64 1, .int .u64 1, .int .u64 2, .int .u64 2, .int .u64 3, .int .u64 3, .int .u64 4, .int .u64 4, .int .u64 5, .int .u64 5, .int .u64 6, .int .u64 6, .int .u64 7, .int .u64 7, .int .u64 8, .int .u64 8, .int .u64 9, .int .u64 9, .int .u64 10, .int .u64 10, .int .u64 0, .int .u64 0, .int .u64 1, .int .u64 1, .int .u64 2, .int .u64 2, .int .u64 3, .int .u64 3, .int .u64 4, .int .u64 4, .int .u64 5, .int .u64 5, .int .u64 6, .int .u64 6, .int .u64 7, .int .u64 7, .int .u64 8, .int .u64 8, .int .u64 9, .int .u64 9, .int .u64 10, .int .u64 10, .int .u64 11, .int .u64 11, .int .u64 12, .int .u64 12, .int .u64 13, .int .u64 13, .int .u64 14, .int .u64 14, .int .u64 0, .int .u64 0, .int .u64 1, .int .u64 1, .int .u64 2, .int .u64 2, .int .u64 3, .int .u64 3, .int .u64 0, .int .u64 0, .int .u64 1, .int .u64 1, .int .u64 2, .int .u64 2, .int .u64 3, .int .u64 3, .int .u64 4, .int .u64 4, .int .u64 0, .int .u64 0, .int .u64 1, .int .u64 1, .int .u64 2, .int .u64 2, .int .u64 3, .int .u64 3, .int .u64 4, .int .u64 4, .int .u64 5, .int .u64 5, .int .u64 6, .int .u64 6, .int .u64 7, .int .u64 7, .int .u64 8, .int .u64 8, .int .u64 9, .int .u64 9, .int .u64 10, .int .u64 10, .int .u64 11, .int .u64 11, .int .u64 12, .int .u64 12, .int .u64 13, .int .u64 13, .int .u64 14, .int .u64 14, .int .u64 15, .int .u64 15, .int .u64 16, .int .u64 16, .int .u64 17, .int .u64 17, .int .u64 18, .int .u64 18, .int .u64 19, .int .u64 19, .int .u64 20, .int .u64 20, .int .u64 21, .int .u64 21, .int .u64 22, .int .u64 22, .int .u64 23, .int .u64 23, .int .u64 0, .int .u64 0, .int .u64 1, .int .u64 1, .int .u64 2, .int .u64 2, .int .u64 3, .int .u64 3, .int .u64 4, .int .u64 4, .int .u64 5, .int .u64 5, .int .u64 0, .int .u64 0, .int .u64 1, .int .u64 1, .int .u64 2, .int .u64 2, .int .u64 3, .int .u64 3, .int .u64 4, .int .u64 4, .int .u64 5, .int .u64 5, .int .u64 6, .int .u64 6]) (ok := fun _ => True) (okp := fun _ => True) ?_ ?_ (fun _ hk => hk) trivial (Below.refl _ _) (Nat.le_refl _) (by simp) ?_
  · rfl
  · rfl
  · kernel_rfl
  · exact (Reps.c2 (show Kd.M k28 _ _ _ (⟨0, 0⟩ : S28) [.int .u64 0, .int .u64 0] from (k28_mkM _ _ _ (⟨0, 0⟩ : S28) )) (Reps.c2 (show Kd.M k28 _ _ _ (⟨1, 1⟩ : S28) [.int .u64 1, .int .u64 1] from (k28_mkM _ _ _ (⟨1, 1⟩ : S28) )) (Reps.c2 (show Kd.M k28 _ _ _ (⟨2, 2⟩ : S28) [.int .u64 2, .int .u64 2] from (k28_mkM _ _ _ (⟨2, 2⟩ : S28) )) (Reps.c2 (show Kd.M k28 _ _ _ (⟨3, 3⟩ : S28) [.int .u64 3, .int .u64 3] from (k28_mkM _ _ _ (⟨3, 3⟩ : S28) )) (Reps.c2 (show Kd.M k28 _ _ _ (⟨4, 4⟩ : S28) [.int .u64 4, .int .u64 4] from (k28_mkM _ _ _ (⟨4, 4⟩ : S28) )) (Reps.c2 (show Kd.M k28 _ _ _ (⟨5, 5⟩ : S28) [.int .u64 5, .int .u64 5] from (k28_mkM _ _ _ (⟨5, 5⟩ : S28) )) (Reps.c2 (show Kd.M k28 _ _ _ (⟨0, 0⟩ : S28) [.int .u64 0, .int .u64 0] from (k28_mkM _ _ _ (⟨0, 0⟩ : S28) )) (Reps.c2 (show Kd.M k28 _ _ _ (⟨1, 1⟩ : S28) [.int .u64 1, .int .u64 1] from (k28_mkM _ _ _ (⟨1, 1⟩ : S28) )) (Reps.c2 (show Kd.M k28 _ _ _ (⟨2, 2⟩ : S28) [.int .u64 2, .int .u64 2] from (k28_mkM _ _ _ (⟨2, 2⟩ : S28) )) (Reps.c2 (show Kd.M k28 _ _ _ (⟨3, 3⟩ : S28) [.int .u64 3, .int .u64 3] from (k28_mkM _ _ _ (⟨3, 3⟩ : S28) )) (Reps.c2 (show Kd.M k28 _ _ _ (⟨4, 4⟩ : S28) [.int .u64 4, .int .u64 4] from (k28_mkM _ _ _ (⟨4, 4⟩ : S28) )) (Reps.c2 (show Kd.M k28 _ _ _ (⟨0, 0⟩ : S28) [.int .u64 0, .int .u64 0] from (k28_mkM _ _ _ (⟨0, 0⟩ : S28) )) (Reps.c2 (show Kd.M k28 _ _ _ (⟨1, 1⟩ : S28) [.int .u64 1, .int .u64 1] from (k28_mkM _ _ _ (⟨1, 1⟩ : S28) )) (Reps.c2 (show Kd.M k28 _ _ _ (⟨2, 2⟩ : S28) [.int .u64 2, .int .u64 2] from (k28_mkM _ _ _ (⟨2, 2⟩ : S28) )) (Reps.c2 (show Kd.M k28 _ _ _ (⟨0, 0⟩ : S28) [.int .u64 0, .int .u64 0] from (k28_mkM _ _ _ (⟨0, 0⟩ : S28) )) (Reps.c2 (show Kd.M k28 _ _ _ (⟨1, 1⟩ : S28) [.int .u64 1, .int .u64 1] from (k28_mkM _ _ _ (⟨1, 1⟩ : S28) )) (Reps.c2 (show Kd.M k28 _ _ _ (⟨2, 2⟩ : S28) [.int .u64 2, .int .u64 2] from (k28_mkM _ _ _ (⟨2, 2⟩ : S28) )) (Reps.c2 (show Kd.M k28 _ _ _ (⟨3, 3⟩ : S28) [.int .u64 3, .int .u64 3] from (k28_mkM _ _ _ (⟨3, 3⟩ : S28) )) (Reps.c2 (show Kd.M k28 _ _ _ (⟨4, 4⟩ : S28) [.int .u64 4, .int .u64 4] from (k28_mkM _ _ _ (⟨4, 4⟩ : S28) )) (Reps.c2 (show Kd.M k28 _ _ _ (⟨0, 0⟩ : S28) [.int .u64 0, .int .u64 0] from (k28_mkM _ _ _ (⟨0, 0⟩ : S28) )) (Reps.c2 (show Kd.M k28 _ _ _ (⟨1, 1⟩ : S28) [.int .u64 1, .int .u64 1] from (k28_mkM _ _ _ (⟨1, 1⟩ : S28) )) (Reps.c2 (show Kd.M k28 _ _ _ (⟨2, 2⟩ : S28) [.int .u64 2, .int .u64 2] from (k28_mkM _ _ _ (⟨2, 2⟩ : S28) )) (Reps.c2 (show Kd.M k28 _ _ _ (⟨3, 3⟩ : S28) [.int .u64 3, .int .u64 3] from (k28_mkM _ _ _ (⟨3, 3⟩ : S28) )) (Reps.c2 (show Kd.M k28 _ _ _ (⟨4, 4⟩ : S28) [.int .u64 4, .int .u64 4] from (k28_mkM _ _ _ (⟨4, 4⟩ : S28) )) (Reps.c2 (show Kd.M k28 _ _ _ (⟨5, 5⟩ : S28) [.int .u64 5, .int .u64 5] from (k28_mkM _ _ _ (⟨5, 5⟩ : S28) )) (Reps.c2 (show Kd.M k28 _ _ _ (⟨6, 6⟩ : S28) [.int .u64 6, .int .u64 6] from (k28_mkM _ _ _ (⟨6, 6⟩ : S28) )) (Reps.c2 (show Kd.M k28 _ _ _ (⟨7, 7⟩ : S28) [.int .u64 7, .int .u64 7] from (k28_mkM _ _ _ (⟨7, 7⟩ : S28) )) (Reps.c2 (show Kd.M k28 _ _ _ (⟨8, 8⟩ : S28) [.int .u64 8, .int .u64 8] from (k28_mkM _ _ _ (⟨8, 8⟩ : S28) )) (Reps.c2 (show Kd.M k28 _ _ _ (⟨9, 9⟩ : S28) [.int .u64 9, .int .u64 9] from (k28_mkM _ _ _ (⟨9, 9⟩ : S28) )) (Reps.c2 (show Kd.M k28 _ _ _ (⟨10, 10⟩ : S28) [.int .u64 10, .int .u64 10] from (k28_mkM _ _ _ (⟨10, 10⟩ : S28) )) (Reps.c2 (show Kd.M k28 _ _ _ (⟨11, 11⟩ : S28) [.int .u64 11, .int .u64 11] from (k28_mkM _ _ _ (⟨11, 11⟩ : S28) )) (Reps.c2 (show Kd.M k28 _ _ _ (⟨12, 12⟩ : S28) [.int .u64 12, .int .u64 12] from (k28_mkM _ _ _ (⟨12, 12⟩ : S28) )) (Reps.c2 (show Kd.M k28 _ _ _ (⟨13, 13⟩ : S28) [.int .u64 13, .int .u64 13] from (k28_mkM _ _ _ (⟨13, 13⟩ : S28) )) (Reps.c2 (show Kd.M k28 _ _ _ (⟨14, 14⟩ : S28) [.int .u64 14, .int .u64 14] from (k28_mkM _ _ _ (⟨14, 14⟩ : S28) )) (Reps.c2 (show Kd.M k28 _ _ _ (⟨15, 15⟩ : S28) [.int .u64 15, .int .u64 15] from (k28_mkM _ _ _ (⟨15, 15⟩ : S28) )) (Reps.c2 (show Kd.M k28 _ _ _ (⟨16, 16⟩ : S28) [.int .u64 16, .int .u64 16] from (k28_mkM _ _ _ (⟨16, 16⟩ : S28) )) (Reps.c2 (show Kd.M k28 _ _ _ (⟨0, 0⟩ : S28) [.int .u64 0, .int .u64 0] from (k28_mkM _ _ _ (⟨0, 0⟩ : S28) )) (Reps.c2 (show Kd.M k28 _ _ _ (⟨1, 1⟩ : S28) [.int .u64 1, .int .u64 1] from (k28_mkM _ _ _ (⟨1, 1⟩ : S28) )) (Reps.c2 (show Kd.M k28 _ _ _ (⟨2, 2⟩ : S28) [.int .u64 2, .int .u64 2] from (k28_mkM _ _ _ (⟨2, 2⟩ : S28) )) (Reps.c2 (show Kd.M k28 _ _ _ (⟨3, 3⟩ : S28) [.int .u64 3, .int .u64 3] from (k28_mkM _ _ _ (⟨3, 3⟩ : S28) )) (Reps.c2 (show Kd.M k28 _ _ _ (⟨4, 4⟩ : S28) [.int .u64 4, .int .u64 4] from (k28_mkM _ _ _ (⟨4, 4⟩ : S28) )) (Reps.c2 (show Kd.M k28 _ _ _ (⟨5, 5⟩ : S28) [.int .u64 5, .int .u64 5] from (k28_mkM _ _ _ (⟨5, 5⟩ : S28) )) (Reps.c2 (show Kd.M k28 _ _ _ (⟨6, 6⟩ : S28) [.int .u64 6, .int .u64 6] from (k28_mkM _ _ _ (⟨6, 6⟩ : S28) )) (Reps.c2 (show Kd.M k28 _ _ _ (⟨7, 7⟩ : S28) [.int .u64 7, .int .u64 7] from (k28_mkM _ _ _ (⟨7, 7⟩ : S28) )) (Reps.c2 (show Kd.M k28 _ _ _ (⟨8, 8⟩ : S28) [.int .u64 8, .int .u64 8] from (k28_mkM _ _ _ (⟨8, 8⟩ : S28) )) (Reps.c2 (show Kd.M k28 _ _ _ (⟨9, 9⟩ : S28) [.int .u64 9, .int .u64 9] from (k28_mkM _ _ _ (⟨9, 9⟩ : S28) )) (Reps.c2 (show Kd.M k28 _ _ _ (⟨10, 10⟩ : S28) [.int .u64 10, .int .u64 10] from (k28_mkM _ _ _ (⟨10, 10⟩ : S28) )) (Reps.c2 (show Kd.M k28 _ _ _ (⟨11, 11⟩ : S28) [.int .u64 11, .int .u64 11] from (k28_mkM _ _ _ (⟨11, 11⟩ : S28) )) (Reps.c2 (show Kd.M k28 _ _ _ (⟨12, 12⟩ : S28) [.int .u64 12, .int .u64 12] from (k28_mkM _ _ _ (⟨12, 12⟩ : S28) )) (Reps.c2 (show Kd.M k28 _ _ _ (⟨13, 13⟩ : S28) [.int .u64 13, .int .u64 13] from (k28_mkM _ _ _ (⟨13, 13⟩ : S28) )) (Reps.c2 (show Kd.M k28 _ _ _ (⟨14, 14⟩ : S28) [.int .u64 14, .int .u64 14] from (k28_mkM _ _ _ (⟨14, 14⟩ : S28) )) (Reps.c2 (show Kd.M k28 _ _ _ (⟨15, 15⟩ : S28) [.int .u64 15, .int .u64 15] from (k28_mkM _ _ _ (⟨15, 15⟩ : S28) )) (Reps.c2 (show Kd.M k28 _ _ _ (⟨16, 16⟩ : S28) [.int .u64 16, .int .u64 16] from (k28_mkM _ _ _ (⟨16, 16⟩ : S28) )) (Reps.c2 (show Kd.M k28 _ _ _ (⟨17, 17⟩ : S28) [.int .u64 17, .int .u64 17] from (k28_mkM _ _ _ (⟨17, 17⟩ : S28) )) (Reps.c2 (show Kd.M k28 _ _ _ (⟨18, 18⟩ : S28) [.int .u64 18, .int .u64 18] from (k28_mkM _ _ _ (⟨18, 18⟩ : S28) )) (Reps.c2 (show Kd.M k28 _ _ _ (⟨19, 19⟩ : S28) [.int .u64 19, .int .u64 19] from (k28_mkM _ _ _ (⟨19, 19⟩ : S28) )) (Reps.c2 (show Kd.M k28 _ _ _ (⟨20, 20⟩ : S28) [.int .u64 20, .int .u64 20] from (k28_mkM _ _ _ (⟨20, 20⟩ : S28) )) (Reps.c2 (show Kd.M k28 _ _ _ (⟨21, 21⟩ : S28) [.int .u64 21, .int .u64 21] from (k28_mkM _ _ _ (⟨21, 21⟩ : S28) )) (Reps.c2 (show Kd.M k28 _ _ _ (⟨0, 0⟩ : S28) [.int .u64 0, .int .u64 0] from (k28_mkM _ _ _ (⟨0, 0⟩ : S28) )) (Reps.c2 (show Kd.M k28 _ _ _ (⟨1, 1⟩ : S28) [.int .u64 1, .int .u64 1] from (k28_mkM _ _ _ (⟨1, 1⟩ : S28) )) (Reps.c2 (show Kd.M k28 _ _ _ (⟨2, 2⟩ : S28) [.int .u64 2, .int .u64 2] from (k28_mkM _ _ _ (⟨2, 2⟩ : S28) )) (Reps.c2 (show Kd.M k28 _ _ _ (⟨3, 3⟩ : S28) [.int .u64 3, .int .u64 3] from (k28_mkM _ _ _ (⟨3, 3⟩ : S28) )) (Reps.c2 (show Kd.M k28 _ _ _ (⟨4, 4⟩ : S28) [.int .u64 4, .int .u64 4] from (k28_mkM _ _ _ (⟨4, 4⟩ : S28) )) (Reps.c2 (show Kd.M k28 _ _ _ (⟨5, 5⟩ : S28) [.int .u64 5, .int .u64 5] from (k28_mkM _ _ _ (⟨5, 5⟩ : S28) )) (Reps.c2 (show Kd.M k28 _ _ _ (⟨6, 6⟩ : S28) [.int .u64 6, .int .u64 6] from (k28_mkM _ _ _ (⟨6, 6⟩ : S28) )) (Reps.c2 (show Kd.M k28 _ _ _ (⟨7, 7⟩ : S28) [.int .u64 7, .int .u64 7] from (k28_mkM _ _ _ (⟨7, 7⟩ : S28) )) (Reps.c2 (show Kd.M k28 _ _ _ (⟨8, 8⟩ : S28) [.int .u64 8, .int .u64 8] from (k28_mkM _ _ _ (⟨8, 8⟩ : S28) )) (Reps.c2 (show Kd.M k28 _ _ _ (⟨9, 9⟩ : S28) [.int .u64 9, .int .u64 9] from (k28_mkM _ _ _ (⟨9, 9⟩ : S28) )) (Reps.c2 (show Kd.M k28 _ _ _ (⟨10, 10⟩ : S28) [.int .u64 10, .int .u64 10] from (k28_mkM _ _ _ (⟨10, 10⟩ : S28) )) (Reps.c2 (show Kd.M k28 _ _ _ (⟨0, 0⟩ : S28) [.int .u64 0, .int .u64 0] from (k28_mkM _ _ _ (⟨0, 0⟩ : S28) )) (Reps.c2 (show Kd.M k28 _ _ _ (⟨1, 1⟩ : S28) [.int .u64 1, .int .u64 1] from (k28_mkM _ _ _ (⟨1, 1⟩ : S28) )) (Reps.c2 (show Kd.M k28 _ _ _ (⟨2, 2⟩ : S28) [.int .u64 2, .int .u64 2] from (k28_mkM _ _ _ (⟨2, 2⟩ : S28) )) (Reps.c2 (show Kd.M k28 _ _ _ (⟨3, 3⟩ : S28) [.int .u64 3, .int .u64 3] from (k28_mkM _ _ _ (⟨3, 3⟩ : S28) )) (Reps.c2 (show Kd.M k28 _ _ _ (⟨4, 4⟩ : S28) [.int .u64 4, .int .u64 4] from (k28_mkM _ _ _ (⟨4, 4⟩ : S28) )) (Reps.c2 (show Kd.M k28 _ _ _ (⟨5, 5⟩ : S28) [.int .u64 5, .int .u64 5] from (k28_mkM _ _ _ (⟨5, 5⟩ : S28) )) (Reps.c2 (show Kd.M k28 _ _ _ (⟨6, 6⟩ : S28) [.int .u64 6, .int .u64 6] from (k28_mkM _ _ _ (⟨6, 6⟩ : S28) )) (Reps.c2 (show Kd.M k28 _ _ _ (⟨7, 7⟩ : S28) [.int .u64 7, .int .u64 7] from (k28_mkM _ _ _ (⟨7, 7⟩ : S28) )) (Reps.c2 (show Kd.M k28 _ _ _ (⟨8, 8⟩ : S28) [.int .u64 8, .int .u64 8] from (k28_mkM _ _ _ (⟨8, 8⟩ : S28) )) (Reps.c2 (show Kd.M k28 _ _ _ (⟨9, 9⟩ : S28) [.int .u64 9, .int .u64 9] from (k28_mkM _ _ _ (⟨9, 9⟩ : S28) )) (Reps.c2 (show Kd.M k28 _ _ _ (⟨10, 10⟩ : S28) [.int .u64 10, .int .u64 10] from (k28_mkM _ _ _ (⟨10, 10⟩ : S28) )) (Reps.c2 (show Kd.M k28 _ _ _ (⟨11, 11⟩ : S28) [.int .u64 11, .int .u64 11] from (k28_mkM _ _ _ (⟨11, 11⟩ : S28) )) (Reps.c2 (show Kd.M k28 _ _ _ (⟨12, 12⟩ : S28) [.int .u64 12, .int .u64 12] from (k28_mkM _ _ _ (⟨12, 12⟩ : S28) )) (Reps.c2 (show Kd.M k28 _ _ _ (⟨13, 13⟩ : S28) [.int .u64 13, .int .u64 13] from (k28_mkM _ _ _ (⟨13, 13⟩ : S28) )) (Reps.c2 (show Kd.M k28 _ _ _ (⟨14, 14⟩ : S28) [.int .u64 14, .int .u64 14] from (k28_mkM _ _ _ (⟨14, 14⟩ : S28) )) (Reps.c2 (show Kd.M k28 _ _ _ (⟨0, 0⟩ : S28) [.int .u64 0, .int .u64 0] from (k28_mkM _ _ _ (⟨0, 0⟩ : S28) )) (Reps.c2 (show Kd.M k28 _ _ _ (⟨1, 1⟩ : S28) [.int .u64 1, .int .u64 1] from (k28_mkM _ _ _ (⟨1, 1⟩ : S28) )) (Reps.c2 (show Kd.M k28 _ _ _ (⟨2, 2⟩ : S28) [.int .u64 2, .int .u64 2] from (k28_mkM _ _ _ (⟨2, 2⟩ : S28) )) (Reps.c2 (show Kd.M k28 _ _ _ (⟨3, 3⟩ : S28) [.int .u64 3, .int .u64 3] from (k28_mkM _ _ _ (⟨3, 3⟩ : S28) )) (Reps.c2 (show Kd.M k28 _ _ _ (⟨0, 0⟩ : S28) [.int .u64 0, .int .u64 0] from (k28_mkM _ _ _ (⟨0, 0⟩ : S28) )) (Reps.c2 (show Kd.M k28 _ _ _ (⟨1, 1⟩ : S28) [.int .u64 1, .int .u64 1] from (k28_mkM _ _ _ (⟨1, 1⟩ : S28) )) (Reps.c2 (show Kd.M k28 _ _ _ (⟨2, 2⟩ : S28) [.int .u64 2, .int .u64 2] from (k28_mkM _ _ _ (⟨2, 2⟩ : S28) )) (Reps.c2 (show Kd.M k28 _ _ _ (⟨3, 3⟩ : S28) [.int .u64 3, .int .u64 3] from (k28_mkM _ _ _ (⟨3, 3⟩ : S28) )) (Reps.c2 (show Kd.M k28 _ _ _ (⟨4, 4⟩ : S28) [.int .u64 4, .int .u64 4] from (k28_mkM _ _ _ (⟨4, 4⟩ : S28) )) (Reps.c2 (show Kd.M k28 _ _ _ (⟨0, 0⟩ : S28) [.int .u64 0, .int .u64 0] from (k28_mkM _ _ _ (⟨0, 0⟩ : S28) )) (Reps.c2 (show Kd.M k28 _ _ _ (⟨1, 1⟩ : S28) [.int .u64 1, .int .u64 1] from (k28_mkM _ _ _ (⟨1, 1⟩ : S28) )) (Reps.c2 (show Kd.M k28 _ _ _ (⟨2, 2⟩ : S28) [.int .u64 2, .int .u64 2] from (k28_mkM _ _ _ (⟨2, 2⟩ : S28) )) (Reps.c2 (show Kd.M k28 _ _ _ (⟨3, 3⟩ : S28) [.int .u64 3, .int .u64 3] from (k28_mkM _ _ _ (⟨3, 3⟩ : S28) )) (Reps.c2 (show Kd.M k28 _ _ _ (⟨4, 4⟩ : S28) [.int .u64 4, .int .u64 4] from (k28_mkM _ _ _ (⟨4, 4⟩ : S28) )) (Reps.c2 (show Kd.M k28 _ _ _ (⟨5, 5⟩ : S28) [.int .u64 5, .int .u64 5] from (k28_mkM _ _ _ (⟨5, 5⟩ : S28) )) (Reps.c2 (show Kd.M k28 _ _ _ (⟨6, 6⟩ : S28) [.int .u64 6, .int .u64 6] from (k28_mkM _ _ _ (⟨6, 6⟩ : S28) )) (Reps.c2 (show Kd.M k28 _ _ _ (⟨7, 7⟩ : S28) [.int .u64 7, .int .u64 7] from (k28_mkM _ _ _ (⟨7, 7⟩ : S28) )) (Reps.c2 (show Kd.M k28 _ _ _ (⟨8, 8⟩ : S28) [.int .u64 8, .int .u64 8] from (k28_mkM _ _ _ (⟨8, 8⟩ : S28) )) (Reps.c2 (show Kd.M k28 _ _ _ (⟨9, 9⟩ : S28) [.int .u64 9, .int .u64 9] from (k28_mkM _ _ _ (⟨9, 9⟩ : S28) )) (Reps.c2 (show Kd.M k28 _ _ _ (⟨10, 10⟩ : S28) [.int .u64 10, .int .u64 10] from (k28_mkM _ _ _ (⟨10, 10⟩ : S28) )) (Reps.c2 (show Kd.M k28 _ _ _ (⟨11, 11⟩ : S28) [.int .u64 11, .int .u64 11] from (k28_mkM _ _ _ (⟨11, 11⟩ : S28) )) (Reps.c2 (show Kd.M k28 _ _ _ (⟨12, 12⟩ : S28) [.int .u64 12, .int .u64 12] from (k28_mkM _ _ _ (⟨12, 12⟩ : S28) )) (Reps.c2 (show Kd.M k28 _ _ _ (⟨13, 13⟩ : S28) [.int .u64 13, .int .u64 13] from (k28_mkM _ _ _ (⟨13, 13⟩ : S28) )) (Reps.c2 (show Kd.M k28 _ _ _ (⟨14, 14⟩ : S28) [.int .u64 14, .int .u64 14] from (k28_mkM _ _ _ (⟨14, 14⟩ : S28) )) (Reps.c2 (show Kd.M k28 _ _ _ (⟨15, 15⟩ : S28) [.int .u64 15, .int .u64 15] from (k28_mkM _ _ _ (⟨15, 15⟩ : S28) )) (Reps.c2 (show Kd.M k28 _ _ _ (⟨16, 16⟩ : S28) [.int .u64 16, .int .u64 16] from (k28_mkM _ _ _ (⟨16, 16⟩ : S28) )) (Reps.c2 (show Kd.M k28 _ _ _ (⟨17, 17⟩ : S28) [.int .u64 17, .int .u64 17] from (k28_mkM _ _ _ (⟨17, 17⟩ : S28) )) (Reps.c2 (show Kd.M k28 _ _ _ (⟨18, 18⟩ : S28) [.int .u64 18, .int .u64 18] from (k28_mkM _ _ _ (⟨18, 18⟩ : S28) )) (Reps.c2 (show Kd.M k28 _ _ _ (⟨19, 19⟩ : S28) [.int .u64 19, .int .u64 19] from (k28_mkM _ _ _ (⟨19, 19⟩ : S28) )) (Reps.c2 (show Kd.M k28 _ _ _ (⟨20, 20⟩ : S28) [.int .u64 20, .int .u64 20] from (k28_mkM _ _ _ (⟨20, 20⟩ : S28) )) (Reps.c2 (show Kd.M k28 _ _ _ (⟨21, 21⟩ : S28) [.int .u64 21, .int .u64 21] from (k28_mkM _ _ _ (⟨21, 21⟩ : S28) )) (Reps.c2 (show Kd.M k28 _ _ _ (⟨22, 22⟩ : S28) [.int .u64 22, .int .u64 22] from (k28_mkM _ _ _ (⟨22, 22⟩ : S28) )) (Reps.c2 (show Kd.M k28 _ _ _ (⟨23, 23⟩ : S28) [.int .u64 23, .int .u64 23] from (k28_mkM _ _ _ (⟨23, 23⟩ : S28) )) (Reps.c2 (show Kd.M k28 _ _ _ (⟨0, 0⟩ : S28) [.int .u64 0, .int .u64 0] from (k28_mkM _ _ _ (⟨0, 0⟩ : S28) )) (Reps.c2 (show Kd.M k28 _ _ _ (⟨1, 1⟩ : S28) [.int .u64 1, .int .u64 1] from (k28_mkM _ _ _ (⟨1, 1⟩ : S28) )) (Reps.c2 (show Kd.M k28 _ _ _ (⟨2, 2⟩ : S28) [.int .u64 2, .int .u64 2] from (k28_mkM _ _ _ (⟨2, 2⟩ : S28) )) (Reps.c2 (show Kd.M k28 _ _ _ (⟨3, 3⟩ : S28) [.int .u64 3, .int .u64 3] from (k28_mkM _ _ _ (⟨3, 3⟩ : S28) )) (Reps.c2 (show Kd.M k28 _ _ _ (⟨4, 4⟩ : S28) [.int .u64 4, .int .u64 4] from (k28_mkM _ _ _ (⟨4, 4⟩ : S28) )) (Reps.c2 (show Kd.M k28 _ _ _ (⟨5, 5⟩ : S28) [.int .u64 5, .int .u64 5] from (k28_mkM _ _ _ (⟨5, 5⟩ : S28) )) (Reps.c2 (show Kd.M k28 _ _ _ (⟨0, 0⟩ : S28) [.int .u64 0, .int .u64 0] from (k28_mkM _ _ _ (⟨0, 0⟩ : S28) )) (Reps.c2 (show Kd.M k28 _ _ _ (⟨1, 1⟩ : S28) [.int .u64 1, .int .u64 1] from (k28_mkM _ _ _ (⟨1, 1⟩ : S28) )) (Reps.c2 (show Kd.M k28 _ _ _ (⟨2, 2⟩ : S28) [.int .u64 2, .int .u64 2] from (k28_mkM _ _ _ (⟨2, 2⟩ : S28) )) (Reps.c2 (show Kd.M k28 _ _ _ (⟨3, 3⟩ : S28) [.int .u64 3, .int .u64 3] from (k28_mkM _ _ _ (⟨3, 3⟩ : S28) )) (Reps.c2 (show Kd.M k28 _ _ _ (⟨4, 4⟩ : S28) [.int .u64 4, .int .u64 4] from (k28_mkM _ _ _ (⟨4, 4⟩ : S28) )) (Reps.c2 (show Kd.M k28 _ _ _ (⟨5, 5⟩ : S28) [.int .u64 5, .int .u64 5] from (k28_mkM _ _ _ (⟨5, 5⟩ : S28) )) (Reps.c2 (show Kd.M k28 _ _ _ (⟨6, 6⟩ : S28) [.int .u64 6, .int .u64 6] from (k28_mkM _ _ _ (⟨6, 6⟩ : S28) )) (Reps.none _ _)))))))))))))))))))))))))))))))))))))))))))))))))))))))))))))))))))))))))))))))))))))))))))))))))))))))))))))))))))))))))))))))))))
  intro v104 w2 ho3 hb hg_ hnew_
  clear hg_ hnew_
  rw [← Ny103.out] at ho3
  have n0_ := Aside0.mk (Kd.R_lower ho3 (below_size (by repeat (first | (with_reducible first | exact HB.out | apply below_alloc | apply pw_below_drewN | apply below_drew1) | exact HB.out))))
  have n1_ := Aside0.mk (below_step (by repeat (first | (with_reducible first | exact HB.out | apply below_alloc | apply pw_below_drewN | apply below_drew1) | exact HB.out)) hb)
  clear HB
  have HO105 := n0_
  have HB := n1_
  clear n0_ n1_
  clear hb ho3
  obtain ⟨Ao4, co4, eo4⟩ := Kd.R_slice HO105.out
  subst eo4
  go_wp2_with ((with_reducible refine gate_callee (f := 7) rfl ?_); refine goesL_ (some 132) rfl rfl Try.func7 (by kernel_rfl) rfl #[.slice Ao4 y103.length co4] rfl (by (try simp only [List.map_toArray, List.map_cons, List.map_nil]); first | done | rfl | (simp only [List.length_drop, List.length_take]; rfl)) ?_; (with_reducible refine (fathomlaw0_same.calls k _ _ y103 t106 _ ?side1 ?side2 A1.out).mono ?_); (case side1 => repeat (first | exact (Kd.R_reads' HO105.out).2.2 | (with_reducible refine Kd.C_alloc ?_ _) | (with_reducible refine Kd.C_drewN ?_ _) | (with_reducible refine Kd.C_drew ?_))); (case side2 => exact (Kd.R_reads' HO105.out).2.1); rintro e w' ⟨rfl, ⟨nd, rfl⟩⟩; refine ⟨_, rfl, ?_⟩)
  go_ret
  exact ⟨by first | rfl | (simp [errW_none, errW_some] <;> rfl) | (simp [*, errW_none, errW_some] <;> rfl), by repeat (first | (with_reducible first | exact HB.out | apply below_alloc | apply pw_below_drewN | apply below_drew1) | exact HB.out)⟩

/-- THE ONE PURE STATEMENT of fathomlaw0_ApiKinds: yours. -/
def fathomlaw0_ApiKinds.Pure : Prop := ∃ k, fathomlaw0_ApiKinds.f k  = some true
theorem fathomlaw0_ApiKinds.walk (P : fathomlaw0_ApiKinds.Pure)  (w : World)  :
    Calls Try.prog 5 #[] w fun e w' => e = .returned (.bool true) ∧ Below w.heap.size w w' := by
  obtain ⟨k, h⟩ := P  
  refine (fathomlaw0_ApiKinds.calls k  true w h).mono ?_
  rintro e w' ⟨rfl, hd⟩
  exact ⟨rfl, hd⟩

end Go.Proofs.Ytlebgkfgnebdjaa.PApiKinds
