-- PRINTED BY print.sh 35421559b90ae4d0a3588c463048766b98c2df88dd9212a6774a882060cdf62d: not written by this session
import Derived.Test.YtlebgkfgnebdjaaPApiLimitsx0
namespace Go.Proofs.Ytlebgkfgnebdjaa.PApiLimits
open Go.RowKit Go.Proofs.YtlebgkfgnebdjaaW.PrintWords Go.Proofs.YtlebgkfgnebdjaaW.PrintLast Go.Proofs.YtlebgkfgnebdjaaW.PrintMore
attribute [local go_sem] max2_int min2_int max_two min_two max_three min_three max_four min_four   -- for this text's walks alone
set_option linter.unusedVariables false
set_option linter.unusedSimpArgs false

/-! ### fathomlaw0_same: function 7 -/
def fathomlaw0_same.l0 : Nat → List (S28) → Int → Option (Bool)
  | 0, _, _ => none
  | k + 1, x0, x3 => if x3 < (x0.length : Int) then (if 0 ≤ x3 then (if ((rd_T28 x0 x3).f0) = ((rd_T28 x0 x3).f1) then (fathomlaw0_same.l0 k x0 (wrap64 (x3 + 1))) else (some false)) else (none)) else (some true)
def fathomlaw0_same.f (k : Nat) (l0 : List (S28)) : Option (Bool) := fathomlaw0_same.l0 k l0 0
theorem fathomlaw0_same.mono_l : ∀ k, (∀ y0 y1, LeO (fathomlaw0_same.l0 k y0 y1) (fathomlaw0_same.l0 (k + 1) y0 y1))
  | 0 => fun _ _ r h => by simp [fathomlaw0_same.l0] at h
  | k + 1 => by
    have ih0 := fathomlaw0_same.mono_l k
    · intro y0 y1
      unfold fathomlaw0_same.l0
      repeat' first
      | (with_reducible exact ih0 _ _)
      | (with_reducible exact LeO.refl _)
      | (with_reducible exact LeO.none _)
      | (with_reducible refine LeO.ite ?_ ?_)
      | (with_reducible refine LeO.bind ?_ (fun _ => ?_))
      | exact ih0 _ _
      | exact LeO.none _
      | refine LeO.ite ?_ ?_
      | refine LeO.bind ?_ (fun _ => ?_)
theorem fathomlaw0_same.mono : ∀ a0 k, LeO (fathomlaw0_same.f k a0) (fathomlaw0_same.f (k + 1) a0) := by
  intro a0 k
  have ih0 := fathomlaw0_same.mono_l k
  unfold fathomlaw0_same.f
  repeat' first
      | (with_reducible exact ih0 _ _)
      | (with_reducible exact LeO.refl _)
      | (with_reducible exact LeO.none _)
      | (with_reducible refine LeO.ite ?_ ?_)
      | (with_reducible refine LeO.bind ?_ (fun _ => ?_))
      | exact ih0 _ _
      | exact LeO.none _
      | refine LeO.ite ?_ ?_
      | refine LeO.bind ?_ (fun _ => ?_)
set_option maxHeartbeats 8000000 in
set_option maxRecDepth 100000 in
theorem fathomlaw0_same.calls (k : Nat) (A0 : Option Addr) (c0 : Nat) (l0 : List (S28)) (r : Bool) (w : World) (hr0 : Kd.C k28 w A0 l0.length l0) (hc0 : l0.length ≤ c0) (h : fathomlaw0_same.f k l0 = some r) :
    Calls Try.prog 7 #[.slice A0 l0.length c0] w fun e w' => e = .returned (.bool r) ∧ Drawn0 w w' := by
  have HR0 := Aside0.mk hr0
  have HC0 := Aside0.mk hc0
  clear hr0 hc0
  have H : (fathomlaw0_same.l0 k l0 0) = some r := h
  clear h
  have H' := Aside0.mk H
  clear H
  go_enter Try.func7, Try.ntmps7
  go_wp2
  repeat (go_quiet (fail); try go_wp2)
  go_loopg [3] k (fun kq v3 w' => ∃ (x3_1 : Int), v3 = .int .i64 x3_1 ∧ Aside0 (fathomlaw0_same.l0 kq l0 x3_1 = some r) ∧ Aside0 (kq ≤ k) ∧ Drawn0 w w')
  case atStart => exact ⟨(0), (by first | rfl | (simp; done) | (simp [*]; done)), H', ⟨Nat.le_refl _⟩, by repeat (first | exact Drawn0.refl _ | apply Drawn0.step)⟩
  case round =>
    clear H'
    obtain ⟨x3_1, rfl, HA, HK1, ⟨m1, rfl⟩⟩ := hrel
    cases gk with
    | zero => exact absurd HA.out (by simp [fathomlaw0_same.l0])
    | succ k1 =>
      have H := HA.out
      clear HA
      simp only [fathomlaw0_same.l0] at H
      by_cases c2 : x3_1 < (l0.length : Int)
      · rw [if_pos c2] at H
        have c2b0 : decide (x3_1 < (l0.length : Int)) = true := decide_eq_true c2
        clear c2
        by_cases c3 : 0 ≤ x3_1
        · rw [if_pos c3] at H
          have c3b0 : decide (0 ≤ x3_1) = true := decide_eq_true c3
          clear c3
          by_cases c4 : ((rd_T28 l0 x3_1).f0) = ((rd_T28 l0 x3_1).f1)
          · rw [if_pos c4] at H
            have c4b0 : (((rd_T28 l0 x3_1).f0) == ((rd_T28 l0 x3_1).f1)) = true := beq_iff_eq.mpr c4
            have c4b1 : (((rd_T28 l0 x3_1).f0) != ((rd_T28 l0 x3_1).f1)) = false := bne_eq_false_iff_eq.mpr c4
            clear c4
            have H' := Aside0.mk H
            clear H
            have p101 : 0 ≤ (x3_1 : Int) := of_decide_eq_true (by first | (with_reducible assumption) | assumption)
            have q101 : x3_1 < (l0.length : Int) := of_decide_eq_true (by first | (with_reducible assumption) | assumption)
            obtain ⟨ad101, e101, hx101_0, hx101_1⟩ := at_T28 HR0.out x3_1 p101 q101
            cases e101
            replace p101 := eq_true p101
            replace q101 := eq_true q101
            have p102 : 0 ≤ (x3_1 : Int) := of_decide_eq_true (by first | (with_reducible assumption) | assumption)
            have q102 : x3_1 < (l0.length : Int) := of_decide_eq_true (by first | (with_reducible assumption) | assumption)
            obtain ⟨ad102, e102, hx102_0, hx102_1⟩ := at_T28 HR0.out x3_1 p102 q102
            obtain rfl : ad101 = ad102 := (by injection e102)
            replace p102 := eq_true p102
            replace q102 := eq_true q102
            go_wp2
            repeat (go_quiet (fail); try go_wp2)
            go_roundg k1
            case measure => have := HK1.out; omega
            case rel => exact ⟨(wrap64 (x3_1 + 1)), (by first | rfl | (simp; done) | (simp [*]; done)), H', ⟨by have := HK1.out; omega⟩, by repeat (first | exact Drawn0.refl _ | apply Drawn0.step)⟩
          · rw [if_neg c4] at H
            have c4b0 : (((rd_T28 l0 x3_1).f0) == ((rd_T28 l0 x3_1).f1)) = false := beq_eq_false_iff_ne.mpr c4
            have c4b1 : (((rd_T28 l0 x3_1).f0) != ((rd_T28 l0 x3_1).f1)) = true := bne_iff_ne.mpr c4
            obtain rfl := Option.some.inj H
            have p101 : 0 ≤ (x3_1 : Int) := of_decide_eq_true (by first | (with_reducible assumption) | assumption)
            have q101 : x3_1 < (l0.length : Int) := of_decide_eq_true (by first | (with_reducible assumption) | assumption)
            obtain ⟨ad101, e101, hx101_0, hx101_1⟩ := at_T28 HR0.out x3_1 p101 q101
            cases e101
            replace p101 := eq_true p101
            replace q101 := eq_true q101
            have p102 : 0 ≤ (x3_1 : Int) := of_decide_eq_true (by first | (with_reducible assumption) | assumption)
            have q102 : x3_1 < (l0.length : Int) := of_decide_eq_true (by first | (with_reducible assumption) | assumption)
            obtain ⟨ad102, e102, hx102_0, hx102_1⟩ := at_T28 HR0.out x3_1 p102 q102
            obtain rfl : ad101 = ad102 := (by injection e102)
            replace p102 := eq_true p102
            replace q102 := eq_true q102
            go_wp2
            repeat (go_quiet (fail); try go_wp2)
            go_ret
            exact ⟨by first | rfl | (simp; done) | (simp [*]; done), by repeat (first | exact Drawn0.refl _ | apply Drawn0.step)⟩
        · rw [if_neg c3] at H
          exact absurd H (by simp)
      · rw [if_neg c2] at H
        have c2b0 : decide (x3_1 < (l0.length : Int)) = false := decide_eq_false c2
        clear c2
        obtain rfl := Option.some.inj H
        go_wp2
        repeat (go_quiet (fail); try go_wp2)
        go_ret
        exact ⟨by first | rfl | (simp; done) | (simp [*]; done), by repeat (first | exact Drawn0.refl _ | apply Drawn0.step)⟩

/-! ### fathomlaw0_ApiLimits: function 4 -/
def fathomlaw0_ApiLimits.f (k : Nat)  : Option (Bool) := (fathomlaw0_same.f k (([(⟨2143289344, 2143289344⟩ : S28), (⟨2139095040, 2139095040⟩ : S28), (⟨2147483648, 2147483648⟩ : S28), (⟨9007199254740992, 9007199254740992⟩ : S28), (⟨16384, 16384⟩ : S28), (⟨256, 256⟩ : S28), (⟨4096, 4096⟩ : S28), (⟨131072, 131072⟩ : S28), (⟨4096, 4096⟩ : S28), (⟨64, 64⟩ : S28), (⟨128, 128⟩ : S28), (⟨32, 32⟩ : S28), (⟨3, 3⟩ : S28), (⟨512, 512⟩ : S28), (⟨512, 512⟩ : S28), (⟨65536, 65536⟩ : S28), (⟨4096, 4096⟩ : S28), (⟨262144, 262144⟩ : S28), (⟨8388608, 8388608⟩ : S28), (⟨16384, 16384⟩ : S28), (⟨268435456, 268435456⟩ : S28), (⟨134217728, 134217728⟩ : S28), (⟨64, 64⟩ : S28), (⟨4096, 4096⟩ : S28), (⟨256, 256⟩ : S28), (⟨8192, 8192⟩ : S28), (⟨65536, 65536⟩ : S28), (⟨1200, 1200⟩ : S28), (⟨800, 800⟩ : S28), (⟨4096, 4096⟩ : S28), (⟨4096, 4096⟩ : S28), (⟨131072, 131072⟩ : S28), (⟨4096, 4096⟩ : S28), (⟨67108864, 67108864⟩ : S28), (⟨2, 2⟩ : S28), (⟨24, 24⟩ : S28), (⟨64, 64⟩ : S28), (⟨256, 256⟩ : S28), (⟨4194304, 4194304⟩ : S28), (⟨4096, 4096⟩ : S28), (⟨64, 64⟩ : S28), (⟨256, 256⟩ : S28), (⟨16, 16⟩ : S28), (⟨16, 16⟩ : S28), (⟨64, 64⟩ : S28), (⟨4096, 4096⟩ : S28), (⟨4096, 4096⟩ : S28), (⟨16, 16⟩ : S28), (⟨256, 256⟩ : S28), (⟨9221120237041090560, 9221120237041090560⟩ : S28), (⟨9218868437227405312, 9218868437227405312⟩ : S28), (⟨9223372036854775808, 9223372036854775808⟩ : S28)] : List (S28)))).bind fun t106 => (some t106)
theorem fathomlaw0_ApiLimits.mono : ∀ k, LeO (fathomlaw0_ApiLimits.f k ) (fathomlaw0_ApiLimits.f (k + 1) ) := by
  intro  k
  unfold fathomlaw0_ApiLimits.f
  repeat' first
      | (with_reducible exact fathomlaw0_same.mono _ _)
      | (with_reducible exact LeO.refl _)
      | (with_reducible exact LeO.none _)
      | (with_reducible refine LeO.ite ?_ ?_)
      | (with_reducible refine LeO.bind ?_ (fun _ => ?_))
      | exact fathomlaw0_same.mono _ _
      | exact LeO.none _
      | refine LeO.ite ?_ ?_
      | refine LeO.bind ?_ (fun _ => ?_)
set_option maxHeartbeats 8000000 in
set_option maxRecDepth 100000 in
theorem fathomlaw0_ApiLimits.calls (k : Nat)  (r : Bool) (w : World) (h : fathomlaw0_ApiLimits.f k  = some r) :
    Calls Try.prog 4 #[] w fun e w' => e = .returned (.bool r) ∧ Below w.heap.size w w' := by
  have hu28 := Try.underlying28
  have HB := Aside0.mk (Below.refl w.heap.size w)
  have H : ((fathomlaw0_same.f k (([(⟨2143289344, 2143289344⟩ : S28), (⟨2139095040, 2139095040⟩ : S28), (⟨2147483648, 2147483648⟩ : S28), (⟨9007199254740992, 9007199254740992⟩ : S28), (⟨16384, 16384⟩ : S28), (⟨256, 256⟩ : S28), (⟨4096, 4096⟩ : S28), (⟨131072, 131072⟩ : S28), (⟨4096, 4096⟩ : S28), (⟨64, 64⟩ : S28), (⟨128, 128⟩ : S28), (⟨32, 32⟩ : S28), (⟨3, 3⟩ : S28), (⟨512, 512⟩ : S28), (⟨512, 512⟩ : S28), (⟨65536, 65536⟩ : S28), (⟨4096, 4096⟩ : S28), (⟨262144, 262144⟩ : S28), (⟨8388608, 8388608⟩ : S28), (⟨16384, 16384⟩ : S28), (⟨268435456, 268435456⟩ : S28), (⟨134217728, 134217728⟩ : S28), (⟨64, 64⟩ : S28), (⟨4096, 4096⟩ : S28), (⟨256, 256⟩ : S28), (⟨8192, 8192⟩ : S28), (⟨65536, 65536⟩ : S28), (⟨1200, 1200⟩ : S28), (⟨800, 800⟩ : S28), (⟨4096, 4096⟩ : S28), (⟨4096, 4096⟩ : S28), (⟨131072, 131072⟩ : S28), (⟨4096, 4096⟩ : S28), (⟨67108864, 67108864⟩ : S28), (⟨2, 2⟩ : S28), (⟨24, 24⟩ : S28), (⟨64, 64⟩ : S28), (⟨256, 256⟩ : S28), (⟨4194304, 4194304⟩ : S28), (⟨4096, 4096⟩ : S28), (⟨64, 64⟩ : S28), (⟨256, 256⟩ : S28), (⟨16, 16⟩ : S28), (⟨16, 16⟩ : S28), (⟨64, 64⟩ : S28), (⟨4096, 4096⟩ : S28), (⟨4096, 4096⟩ : S28), (⟨16, 16⟩ : S28), (⟨256, 256⟩ : S28), (⟨9221120237041090560, 9221120237041090560⟩ : S28), (⟨9218868437227405312, 9218868437227405312⟩ : S28), (⟨9223372036854775808, 9223372036854775808⟩ : S28)] : List (S28)))).bind fun t106 => (some t106)) = some r := h
  clear h
  obtain ⟨y103, hy103⟩ : ∃ y_ : List (S28), y_ = (([(⟨2143289344, 2143289344⟩ : S28), (⟨2139095040, 2139095040⟩ : S28), (⟨2147483648, 2147483648⟩ : S28), (⟨9007199254740992, 9007199254740992⟩ : S28), (⟨16384, 16384⟩ : S28), (⟨256, 256⟩ : S28), (⟨4096, 4096⟩ : S28), (⟨131072, 131072⟩ : S28), (⟨4096, 4096⟩ : S28), (⟨64, 64⟩ : S28), (⟨128, 128⟩ : S28), (⟨32, 32⟩ : S28), (⟨3, 3⟩ : S28), (⟨512, 512⟩ : S28), (⟨512, 512⟩ : S28), (⟨65536, 65536⟩ : S28), (⟨4096, 4096⟩ : S28), (⟨262144, 262144⟩ : S28), (⟨8388608, 8388608⟩ : S28), (⟨16384, 16384⟩ : S28), (⟨268435456, 268435456⟩ : S28), (⟨134217728, 134217728⟩ : S28), (⟨64, 64⟩ : S28), (⟨4096, 4096⟩ : S28), (⟨256, 256⟩ : S28), (⟨8192, 8192⟩ : S28), (⟨65536, 65536⟩ : S28), (⟨1200, 1200⟩ : S28), (⟨800, 800⟩ : S28), (⟨4096, 4096⟩ : S28), (⟨4096, 4096⟩ : S28), (⟨131072, 131072⟩ : S28), (⟨4096, 4096⟩ : S28), (⟨67108864, 67108864⟩ : S28), (⟨2, 2⟩ : S28), (⟨24, 24⟩ : S28), (⟨64, 64⟩ : S28), (⟨256, 256⟩ : S28), (⟨4194304, 4194304⟩ : S28), (⟨4096, 4096⟩ : S28), (⟨64, 64⟩ : S28), (⟨256, 256⟩ : S28), (⟨16, 16⟩ : S28), (⟨16, 16⟩ : S28), (⟨64, 64⟩ : S28), (⟨4096, 4096⟩ : S28), (⟨4096, 4096⟩ : S28), (⟨16, 16⟩ : S28), (⟨256, 256⟩ : S28), (⟨9221120237041090560, 9221120237041090560⟩ : S28), (⟨9218868437227405312, 9218868437227405312⟩ : S28), (⟨9223372036854775808, 9223372036854775808⟩ : S28)] : List (S28))) := ⟨_, rfl⟩
  replace H : ((fathomlaw0_same.f k y103).bind fun t106 => (some t106)) = some r := by first | (rw [hy103]; with_reducible exact H) | (have H2_ := (Option.bind_some _ _).symm.trans H; rw [hy103]; with_reducible exact H2_) | (have H2_ := (Option.bind_some _ _).symm.trans H; with_reducible exact H2_) | with_reducible exact H | (rw [hy103]; exact H) | exact H
  have Ny103 := Aside0.mk hy103
  clear hy103
  replace H := Option.bind_eq_some_iff.mp H
  obtain ⟨t106, A10, H⟩ := H
  replace H : (some t106) = some r := H
  have A1 := Aside0.mk A10
  clear A10
  obtain rfl := Option.some.inj H
  go_enter Try.func4, Try.ntmps4
  go_wp2_with (first | ((with_reducible refine gate_dst (N := 53) rfl ?_); refine Kd.R_lit k28 _ 28 ?hg (N := 53) ?hd (xs := ([(⟨2143289344, 2143289344⟩ : S28), (⟨2139095040, 2139095040⟩ : S28), (⟨2147483648, 2147483648⟩ : S28), (⟨9007199254740992, 9007199254740992⟩ : S28), (⟨16384, 16384⟩ : S28), (⟨256, 256⟩ : S28), (⟨4096, 4096⟩ : S28), (⟨131072, 131072⟩ : S28), (⟨4096, 4096⟩ : S28), (⟨64, 64⟩ : S28), (⟨128, 128⟩ : S28), (⟨32, 32⟩ : S28), (⟨3, 3⟩ : S28), (⟨512, 512⟩ : S28), (⟨512, 512⟩ : S28), (⟨65536, 65536⟩ : S28), (⟨4096, 4096⟩ : S28), (⟨262144, 262144⟩ : S28), (⟨8388608, 8388608⟩ : S28), (⟨16384, 16384⟩ : S28), (⟨268435456, 268435456⟩ : S28), (⟨134217728, 134217728⟩ : S28), (⟨64, 64⟩ : S28), (⟨4096, 4096⟩ : S28), (⟨256, 256⟩ : S28), (⟨8192, 8192⟩ : S28), (⟨65536, 65536⟩ : S28), (⟨1200, 1200⟩ : S28), (⟨800, 800⟩ : S28), (⟨4096, 4096⟩ : S28), (⟨4096, 4096⟩ : S28), (⟨131072, 131072⟩ : S28), (⟨4096, 4096⟩ : S28), (⟨67108864, 67108864⟩ : S28), (⟨2, 2⟩ : S28), (⟨24, 24⟩ : S28), (⟨64, 64⟩ : S28), (⟨256, 256⟩ : S28), (⟨4194304, 4194304⟩ : S28), (⟨4096, 4096⟩ : S28), (⟨64, 64⟩ : S28), (⟨256, 256⟩ : S28), (⟨16, 16⟩ : S28), (⟨16, 16⟩ : S28), (⟨64, 64⟩ : S28), (⟨4096, 4096⟩ : S28), (⟨4096, 4096⟩ : S28), (⟨16, 16⟩ : S28), (⟨256, 256⟩ : S28), (⟨9221120237041090560, 9221120237041090560⟩ : S28), (⟨9218868437227405312, 9218868437227405312⟩ : S28), (⟨9223372036854775808, 9223372036854775808⟩ : S28)] : List (S28))) (inner := [.int .u64 2143289344, .int .u64 2143289344, .int .u64 2139095040, .int .u64 2139095040, .int .u64 2147483648, .int .u64 2147483648, .int .u64 9007199254740992, .int .u64 9007199254740992, .int .u64 16384, .int .u64 16384, .int .u64 256, .int .u64 256, .int .u64 4096, .int .u64 4096, .int .u64 131072, .int .u64 131072, .int .u64 4096, .int .u64 4096, .int .u64 64, .int .u64 64, .int .u64 128, .int .u64 128, .int .u64 32, .int .u64 32, .int .u64 3, .int .u64 3, .int .u64 512, .int .u64 512, .int .u64 512, .int .u64 512, .int .u64 65536, .int .u64 65536, .int .u64 4096, .int .u64 4096, .int .u64 262144, .int .u64 262144, .int .u64 8388608, .int .u64 8388608, .int .u64 16384, .int .u64 16384, .int .u64 268435456, .int .u64 268435456, .int .u64 134217728, .int .u64 134217728, .int .u64 64, .int .u64 64, .int .u64 4096, .int .u64 4096, .int .u64 256, .int .u64 256, .int .u64 8192, .int .u64 8192, .int .u64 65536, .int .u64 65536, .int .u64 1200, .int .u64 1200, .int .u64 800, .int .u64 800, .int .u64 4096, .int .u64 4096, .int .u64 4096, .int .u64 4096, .int .u64 131072, .int .u64 131072, .int .u64 4096, .int .u64 4096, .int .u64 67108864, .int .u64 67108864, .int .u64 2, .int .u64 2, .int .u64 24, .int .u64 24, .int .u64 64, .int .u64 64, .int .u64 256, .int .u64 256, .int .u64 4194304, .int .u64 4194304, .int .u64 4096, .int .u64 4096, .int .u64 64, .int .u64 64, .int .u64 256, .int .u64 256, .int .u64 16, .int .u64 16, .int .u64 16, .int .u64 16, .int .u64 64, .int .u64 64, .int .u64 4096, .int .u64 4096, .int .u64 4096, .int .u64 4096, .int .u64 16, .int .u64 16, .int .u64 256, .int .u64 256, .int .u64 9221120237041090560, .int .u64 9221120237041090560, .int .u64 9218868437227405312, .int .u64 9218868437227405312, .int .u64 9223372036854775808, .int .u64 9223372036854775808]) (ok := fun _ => True) (okp := fun _ => True) ?hr ?hp (fun _ hk => hk) trivial (Below.refl _ _) (Nat.le_refl _) (by simp) ?_; (case hd => rfl); (case hg => rfl); (case hr => first | (go_simp; done) | (go_simp; rfl)); (case hp => exact (Reps.c2 (show Kd.M k28 _ _ _ (⟨2143289344, 2143289344⟩ : S28) [.int .u64 2143289344, .int .u64 2143289344] from (k28_mkM _ _ _ (⟨2143289344, 2143289344⟩ : S28) )) (Reps.c2 (show Kd.M k28 _ _ _ (⟨2139095040, 2139095040⟩ : S28) [.int .u64 2139095040, .int .u64 2139095040] from (k28_mkM _ _ _ (⟨2139095040, 2139095040⟩ : S28) )) (Reps.c2 (show Kd.M k28 _ _ _ (⟨2147483648, 2147483648⟩ : S28) [.int .u64 2147483648, .int .u64 2147483648] from (k28_mkM _ _ _ (⟨2147483648, 2147483648⟩ : S28) )) (Reps.c2 (show Kd.M k28 _ _ _ (⟨9007199254740992, 9007199254740992⟩ : S28) [.int .u64 9007199254740992, .int .u64 9007199254740992] from (k28_mkM _ _ _ (⟨9007199254740992, 9007199254740992⟩ : S28) )) (Reps.c2 (show Kd.M k28 _ _ _ (⟨16384, 16384⟩ : S28) [.int .u64 16384, .int .u64 16384] from (k28_mkM _ _ _ (⟨16384, 16384⟩ : S28) )) (Reps.c2 (show Kd.M k28 _ _ _ (⟨256, 256⟩ : S28) [.int .u64 256, .int .u64 256] from (k28_mkM _ _ _ (⟨256, 256⟩ : S28) )) (Reps.c2 (show Kd.M k28 _ _ _ (⟨4096, 4096⟩ : S28) [.int .u64 4096, .int .u64 4096] from (k28_mkM _ _ _ (⟨4096, 4096⟩ : S28) )) (Reps.c2 (show Kd.M k28 _ _ _ (⟨131072, 131072⟩ : S28) [.int .u64 131072, .int .u64 131072] from (k28_mkM _ _ _ (⟨131072, 131072⟩ : S28) )) (Reps.c2 (show Kd.M k28 _ _ _ (⟨4096, 4096⟩ : S28) [.int .u64 4096, .int .u64 4096] from (k28_mkM _ _ _ (⟨4096, 4096⟩ : S28) )) (Reps.c2 (show Kd.M k28 _ _ _ (⟨64, 64⟩ : S28) [.int .u64 64, .int .u64 64] from (k28_mkM _ _ _ (⟨64, 64⟩ : S28) )) (Reps.c2 (show Kd.M k28 _ _ _ (⟨128, 128⟩ : S28) [.int .u64 128, .int .u64 128] from (k28_mkM _ _ _ (⟨128, 128⟩ : S28) )) (Reps.c2 (show Kd.M k28 _ _ _ (⟨32, 32⟩ : S28) [.int .u64 32, .int .u64 32] from (k28_mkM _ _ _ (⟨32, 32⟩ : S28) )) (Reps.c2 (show Kd.M k28 _ _ _ (⟨3, 3⟩ : S28) [.int .u64 3, .int .u64 3] from (k28_mkM _ _ _ (⟨3, 3⟩ : S28) )) (Reps.c2 (show Kd.M k28 _ _ _ (⟨512, 512⟩ : S28) [.int .u64 512, .int .u64 512] from (k28_mkM _ _ _ (⟨512, 512⟩ : S28) )) (Reps.c2 (show Kd.M k28 _ _ _ (⟨512, 512⟩ : S28) [.int .u64 512, .int .u64 512] from (k28_mkM _ _ _ (⟨512, 512⟩ : S28) )) (Reps.c2 (show Kd.M k28 _ _ _ (⟨65536, 65536⟩ : S28) [.int .u64 65536, .int .u64 65536] from (k28_mkM _ _ _ (⟨65536, 65536⟩ : S28) )) (Reps.c2 (show Kd.M k28 _ _ _ (⟨4096, 4096⟩ : S28) [.int .u64 4096, .int .u64 4096] from (k28_mkM _ _ _ (⟨4096, 4096⟩ : S28) )) (Reps.c2 (show Kd.M k28 _ _ _ (⟨262144, 262144⟩ : S28) [.int .u64 262144, .int .u64 262144] from (k28_mkM _ _ _ (⟨262144, 262144⟩ : S28) )) (Reps.c2 (show Kd.M k28 _ _ _ (⟨8388608, 8388608⟩ : S28) [.int .u64 8388608, .int .u64 8388608] from (k28_mkM _ _ _ (⟨8388608, 8388608⟩ : S28) )) (Reps.c2 (show Kd.M k28 _ _ _ (⟨16384, 16384⟩ : S28) [.int .u64 16384, .int .u64 16384] from (k28_mkM _ _ _ (⟨16384, 16384⟩ : S28) )) (Reps.c2 (show Kd.M k28 _ _ _ (⟨268435456, 268435456⟩ : S28) [.int .u64 268435456, .int .u64 268435456] from (k28_mkM _ _ _ (⟨268435456, 268435456⟩ : S28) )) (Reps.c2 (show Kd.M k28 _ _ _ (⟨134217728, 134217728⟩ : S28) [.int .u64 134217728, .int .u64 134217728] from (k28_mkM _ _ _ (⟨134217728, 134217728⟩ : S28) )) (Reps.c2 (show Kd.M k28 _ _ _ (⟨64, 64⟩ : S28) [.int .u64 64, .int .u64 64] from (k28_mkM _ _ _ (⟨64, 64⟩ : S28) )) (Reps.c2 (show Kd.M k28 _ _ _ (⟨4096, 4096⟩ : S28) [.int .u64 4096, .int .u64 4096] from (k28_mkM _ _ _ (⟨4096, 4096⟩ : S28) )) (Reps.c2 (show Kd.M k28 _ _ _ (⟨256, 256⟩ : S28) [.int .u64 256, .int .u64 256] from (k28_mkM _ _ _ (⟨256, 256⟩ : S28) )) (Reps.c2 (show Kd.M k28 _ _ _ (⟨8192, 8192⟩ : S28) [.int .u64 8192, .int .u64 8192] from (k28_mkM _ _ _ (⟨8192, 8192⟩ : S28) )) (Reps.c2 (show Kd.M k28 _ _ _ (⟨65536, 65536⟩ : S28) [.int .u64 65536, .int .u64 65536] from (k28_mkM _ _ _ (⟨65536, 65536⟩ : S28) )) (Reps.c2 (show Kd.M k28 _ _ _ (⟨1200, 1200⟩ : S28) [.int .u64 1200, .int .u64 1200] from (k28_mkM _ _ _ (⟨1200, 1200⟩ : S28) )) (Reps.c2 (show Kd.M k28 _ _ _ (⟨800, 800⟩ : S28) [.int .u64 800, .int .u64 800] from (k28_mkM _ _ _ (⟨800, 800⟩ : S28) )) (Reps.c2 (show Kd.M k28 _ _ _ (⟨4096, 4096⟩ : S28) [.int .u64 4096, .int .u64 4096] from (k28_mkM _ _ _ (⟨4096, 4096⟩ : S28) )) (Reps.c2 (show Kd.M k28 _ _ _ (⟨4096, 4096⟩ : S28) [.int .u64 4096, .int .u64 4096] from (k28_mkM _ _ _ (⟨4096, 4096⟩ : S28) )) (Reps.c2 (show Kd.M k28 _ _ _ (⟨131072, 131072⟩ : S28) [.int .u64 131072, .int .u64 131072] from (k28_mkM _ _ _ (⟨131072, 131072⟩ : S28) )) (Reps.c2 (show Kd.M k28 _ _ _ (⟨4096, 4096⟩ : S28) [.int .u64 4096, .int .u64 4096] from (k28_mkM _ _ _ (⟨4096, 4096⟩ : S28) )) (Reps.c2 (show Kd.M k28 _ _ _ (⟨67108864, 67108864⟩ : S28) [.int .u64 67108864, .int .u64 67108864] from (k28_mkM _ _ _ (⟨67108864, 67108864⟩ : S28) )) (Reps.c2 (show Kd.M k28 _ _ _ (⟨2, 2⟩ : S28) [.int .u64 2, .int .u64 2] from (k28_mkM _ _ _ (⟨2, 2⟩ : S28) )) (Reps.c2 (show Kd.M k28 _ _ _ (⟨24, 24⟩ : S28) [.int .u64 24, .int .u64 24] from (k28_mkM _ _ _ (⟨24, 24⟩ : S28) )) (Reps.c2 (show Kd.M k28 _ _ _ (⟨64, 64⟩ : S28) [.int .u64 64, .int .u64 64] from (k28_mkM _ _ _ (⟨64, 64⟩ : S28) )) (Reps.c2 (show Kd.M k28 _ _ _ (⟨256, 256⟩ : S28) [.int .u64 256, .int .u64 256] from (k28_mkM _ _ _ (⟨256, 256⟩ : S28) )) (Reps.c2 (show Kd.M k28 _ _ _ (⟨4194304, 4194304⟩ : S28) [.int .u64 4194304, .int .u64 4194304] from (k28_mkM _ _ _ (⟨4194304, 4194304⟩ : S28) )) (Reps.c2 (show Kd.M k28 _ _ _ (⟨4096, 4096⟩ : S28) [.int .u64 4096, .int .u64 4096] from (k28_mkM _ _ _ (⟨4096, 4096⟩ : S28) )) (Reps.c2 (show Kd.M k28 _ _ _ (⟨64, 64⟩ : S28) [.int .u64 64, .int .u64 64] from (k28_mkM _ _ _ (⟨64, 64⟩ : S28) )) (Reps.c2 (show Kd.M k28 _ _ _ (⟨256, 256⟩ : S28) [.int .u64 256, .int .u64 256] from (k28_mkM _ _ _ (⟨256, 256⟩ : S28) )) (Reps.c2 (show Kd.M k28 _ _ _ (⟨16, 16⟩ : S28) [.int .u64 16, .int .u64 16] from (k28_mkM _ _ _ (⟨16, 16⟩ : S28) )) (Reps.c2 (show Kd.M k28 _ _ _ (⟨16, 16⟩ : S28) [.int .u64 16, .int .u64 16] from (k28_mkM _ _ _ (⟨16, 16⟩ : S28) )) (Reps.c2 (show Kd.M k28 _ _ _ (⟨64, 64⟩ : S28) [.int .u64 64, .int .u64 64] from (k28_mkM _ _ _ (⟨64, 64⟩ : S28) )) (Reps.c2 (show Kd.M k28 _ _ _ (⟨4096, 4096⟩ : S28) [.int .u64 4096, .int .u64 4096] from (k28_mkM _ _ _ (⟨4096, 4096⟩ : S28) )) (Reps.c2 (show Kd.M k28 _ _ _ (⟨4096, 4096⟩ : S28) [.int .u64 4096, .int .u64 4096] from (k28_mkM _ _ _ (⟨4096, 4096⟩ : S28) )) (Reps.c2 (show Kd.M k28 _ _ _ (⟨16, 16⟩ : S28) [.int .u64 16, .int .u64 16] from (k28_mkM _ _ _ (⟨16, 16⟩ : S28) )) (Reps.c2 (show Kd.M k28 _ _ _ (⟨256, 256⟩ : S28) [.int .u64 256, .int .u64 256] from (k28_mkM _ _ _ (⟨256, 256⟩ : S28) )) (Reps.c2 (show Kd.M k28 _ _ _ (⟨9221120237041090560, 9221120237041090560⟩ : S28) [.int .u64 9221120237041090560, .int .u64 9221120237041090560] from (k28_mkM _ _ _ (⟨9221120237041090560, 9221120237041090560⟩ : S28) )) (Reps.c2 (show Kd.M k28 _ _ _ (⟨9218868437227405312, 9218868437227405312⟩ : S28) [.int .u64 9218868437227405312, .int .u64 9218868437227405312] from (k28_mkM _ _ _ (⟨9218868437227405312, 9218868437227405312⟩ : S28) )) (Reps.c2 (show Kd.M k28 _ _ _ (⟨9223372036854775808, 9223372036854775808⟩ : S28) [.int .u64 9223372036854775808, .int .u64 9223372036854775808] from (k28_mkM _ _ _ (⟨9223372036854775808, 9223372036854775808⟩ : S28) )) (Reps.none _ _)))))))))))))))))))))))))))))))))))))))))))))))))))))); intro v104 w2 ho3 hb hg_ hnew_; clear hg_ hnew_; (first | rw [← Ny103.out] at ho3 | (simp only [Int.reduceToNat] at ho3; rw [← Ny103.out] at ho3)); have n0_ := Aside0.mk (Kd.R_lower ho3 (below_size (by repeat (first | (with_reducible first | exact HB.out | apply below_alloc | apply pw_below_drewN | apply below_drew1) | exact HB.out)))); have n1_ := Aside0.mk (below_step (by repeat (first | (with_reducible first | exact HB.out | apply below_alloc | apply pw_below_drewN | apply below_drew1) | exact HB.out)) hb); clear HB; have HO105 := n0_; have HB := n1_; clear n0_ n1_; clear hb ho3; obtain ⟨Ao4, co4, eo4⟩ := Kd.R_slice HO105.out; subst eo4) | ((with_reducible refine gate_callee (f := 7) rfl ?_); refine goesL_ (some 54) rfl rfl Try.func7 (by kernel_rfl) rfl #[.slice Ao4 y103.length co4] rfl (by (try simp only [List.map_toArray, List.map_cons, List.map_nil]); first | done | rfl | (simp only [List.length_drop, List.length_take]; rfl)) ?_; (with_reducible refine (fathomlaw0_same.calls k _ _ y103 t106 _ ?side1 ?side2 A1.out).mono ?_); (case side1 => repeat (first | exact (Kd.R_reads' HO105.out).2.2 | (with_reducible refine Kd.C_alloc ?_ _) | (with_reducible refine Kd.C_drewN ?_ _) | (with_reducible refine Kd.C_drew ?_))); (case side2 => exact (Kd.R_reads' HO105.out).2.1); rintro e w' ⟨rfl, ⟨nd, rfl⟩⟩; refine ⟨_, rfl, ?_⟩))
  go_ret
  exact ⟨by first | rfl | (simp [errW_none, errW_some] <;> rfl) | (simp [*, errW_none, errW_some] <;> rfl), by repeat (first | (with_reducible first | exact HB.out | apply below_alloc | apply pw_below_drewN | apply below_drew1) | exact HB.out)⟩

/-- THE ONE PURE STATEMENT of fathomlaw0_ApiLimits: yours. -/
def fathomlaw0_ApiLimits.Pure : Prop := ∃ k, fathomlaw0_ApiLimits.f k  = some true
theorem fathomlaw0_ApiLimits.walk (P : fathomlaw0_ApiLimits.Pure)  (w : World)  :
    Calls Try.prog 4 #[] w fun e w' => e = .returned (.bool true) ∧ Below w.heap.size w w' := by
  obtain ⟨k, h⟩ := P  
  refine (fathomlaw0_ApiLimits.calls k  true w h).mono ?_
  rintro e w' ⟨rfl, hd⟩
  exact ⟨rfl, hd⟩

end Go.Proofs.Ytlebgkfgnebdjaa.PApiLimits
