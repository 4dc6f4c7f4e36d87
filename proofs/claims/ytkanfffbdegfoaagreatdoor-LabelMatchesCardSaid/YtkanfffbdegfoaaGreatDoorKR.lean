/- The document's Name, Rune and Value (as printed) are what the program's name, utf8's decoding and value tell. No condition beyond what each states. The document's Value and Name (as printed) are the program's value and name. No condition beyond what each states. The document's Quote (as printed) is the program's Quote; the contracts of its Name, Value, Quote. No condition beyond what each states. The document's Check tells what the program's does. Its conditions: a name of at most 100000 bytes, at most 100000 words. The document's Get, Match and MatchAll tell what the program's do. Their conditions stand in each. label.MatchAll and the document's MatchAll: each tells whether all matchers take the labels. Their conditions stand in each. -/
import Derived.Test.YtkanfffbdegfoaaGreatDoorPGd
import Derived.Test.YtkanfffbdegfoaaGreatDoorKS
import Derived.Lib.RuneCountTail
import Derived.Test.YtkanfffbdegfoaaGreatDoorKG
import Derived.Test.YtkanfffbdegfoaaGreatDoorPGe
namespace Go.Proofs.YtkanfffbdegfoaaGreatDoor.PD
set_option linter.unusedVariables false
set_option linter.unusedSimpArgs false
section
open Go.RowKit Go.Proofs.YtkanfffbdegfoaaGreatDoorW.PrintWords Go.Proofs.YtkanfffbdegfoaaGreatDoorW.PrintLast Go.Proofs.YtkanfffbdegfoaaGreatDoorW.PrintMore

theorem bt_at (s : ByteArray) (i : Nat) (h : i < s.size) : bt s (i : Int) = (s[i].toNat : Int) := by
  rw [bt, dif_pos (by rw [Int.toNat_natCast]; exact h)]
  rfl
theorem and192 : ∀ b : Fin 256, Go.bits .and .u8 (b.val : Int) 192 = ((b.val / 64 * 64 : Nat) : Int) := by decide +kernel
theorem and63 : ∀ b : Fin 256, wrap64 (Go.bits .and .u8 (b.val : Int) 63) = ((b.val % 64 : Nat) : Int) := by decide +kernel
theorem lead2 : ∀ b : Fin 256, Go.bits .and .i64 (wrap64 (b.val : Int)) (shr .i64 127 (IntKind.u64.wrap 2)) = ((b.val % 32 : Nat) : Int) := by decide +kernel
theorem lead3 : ∀ b : Fin 256, Go.bits .and .i64 (wrap64 (b.val : Int)) (shr .i64 127 (IntKind.u64.wrap 3)) = ((b.val % 16 : Nat) : Int) := by decide +kernel
theorem lead4 : ∀ b : Fin 256, Go.bits .and .i64 (wrap64 (b.val : Int)) (shr .i64 127 (IntKind.u64.wrap 4)) = ((b.val % 8 : Nat) : Int) := by decide +kernel
theorem byteF (b : UInt8) : ∃ f : Fin 256, f.val = b.toNat := ⟨⟨b.toNat, b.toNat_lt⟩, rfl⟩
theorem rune_step (k : Nat) (s : ByteArray) (n low v i : Nat) (hn : n ≤ 4) (hi : i < n) (his : i < s.size) (hv : v < 16777216) :
    fathomref13_Rune.l0 (k + 1) s (n : Int) (low : Int) (v : Int) (i : Int) = if s[i].toNat / 64 = 2 then fathomref13_Rune.l0 k s (n : Int) (low : Int) ((v * 64 + s[i].toNat % 64 : Nat) : Int) ((i + 1 : Nat) : Int) else some 0 := by
  obtain ⟨f, hf⟩ := byteF s[i]
  have h64 := f.isLt
  rw [fathomref13_Rune.l0, if_pos (by omega), if_pos (by omega), if_pos (by omega), bt_at s i his, ← hf, and192, and63]
  have e0 : wrap64 ((v : Int) * 64) = ((v * 64 : Nat) : Int) := by unfold wrap64; omega
  have e1 : wrap64 (wrap64 ((v : Int) * 64) + ((f.val % 64 : Nat) : Int)) = ((v * 64 + f.val % 64 : Nat) : Int) := by
    rw [e0]
    have hg : f.val % 64 < 64 := Nat.mod_lt _ (by omega)
    generalize f.val % 64 = g at *
    unfold wrap64; omega
  have e2 : wrap64 ((i : Int) + 1) = ((i + 1 : Nat) : Int) := by unfold wrap64; omega
  rw [e1, e2]
  by_cases h : f.val / 64 = 2
  · rw [if_pos h, if_pos (by omega)]
  · rw [if_neg h, if_neg (by omega)]
theorem rune_end (k : Nat) (s : ByteArray) (n low v : Nat) :
    fathomref13_Rune.l0 (k + 2) s (n : Int) (low : Int) (v : Int) (n : Int) = if v < low ∨ 1114111 < v ∨ (55296 ≤ v ∧ v < 57344) then some 0 else some (n : Int) := by
  rw [fathomref13_Rune.l0, if_neg (by omega)]
  by_cases h1 : v < low
  · rw [if_pos (by omega), if_pos (Or.inl h1), fathomref13_Rune.j4, if_pos rfl]
  · rw [if_neg (by omega)]
    by_cases h2 : 1114111 < v
    · rw [if_pos (by omega), if_pos (Or.inr (Or.inl h2)), fathomref13_Rune.j4, if_pos rfl]
    · rw [if_neg (by omega)]
      by_cases h3 : 55296 ≤ v
      · rw [if_pos (by omega)]
        by_cases h4 : v < 57344
        · rw [if_pos (Or.inr (Or.inr ⟨h3, h4⟩)), decide_eq_true (by omega), fathomref13_Rune.j4, if_pos rfl]
        · rw [if_neg (by omega), decide_eq_false (by omega), fathomref13_Rune.j4, if_neg (by decide)]
      · rw [if_neg (by omega), if_neg (by omega), fathomref13_Rune.j4, if_neg (by decide)]
/-- How many bytes the code point at the front has; 0: there is no good one. -/
def runeN (s : ByteArray) (i : Nat) : Nat := if Utf8.decode s i = (65533, 1) then 0 else (Utf8.decode s i).2
theorem rune_j2 (k : Nat) (s : ByteArray) (b n low : Nat) (hn : n ≤ 4) (lead : Nat) (hl : Go.bits .and .i64 (wrap64 (b : Int)) (shr .i64 127 (IntKind.u64.wrap (n : Int))) = (lead : Int)) :
    fathomref13_Rune.j2 (k + 1) s (b : Int) (n : Int) (low : Int) = if s.size < n then some 0 else fathomref13_Rune.l0 k s (n : Int) (low : Int) (lead : Int) ((1 : Nat) : Int) := by
  have h0 : 0 ≤ IntKind.u64.wrap (n : Int) := by
    have : n = 0 ∨ n = 1 ∨ n = 2 ∨ n = 3 ∨ n = 4 := by omega
    rcases this with rfl | rfl | rfl | rfl | rfl <;> decide
  rw [fathomref13_Rune.j2, hl]
  by_cases h : s.size < n
  · rw [if_pos h, if_pos (by omega)]
  · rw [if_neg h, if_neg (by omega), if_pos h0]
    rfl
theorem valid_iff (c : Nat) : Utf8.valid (c : Int) = decide (¬ (1114111 < c ∨ (55296 ≤ c ∧ c < 57344))) := by
  unfold Utf8.valid
  by_cases h : 1114111 < c ∨ (55296 ≤ c ∧ c < 57344)
  · rw [decide_eq_false (not_not_intro h)]
    simp
    omega
  · rw [decide_eq_true h]
    simp
    omega
theorem get!_nat (s : ByteArray) (k : Nat) (h : k < s.size) : s.get! k = s[k] := get!_at s k h
set_option maxHeartbeats 2000000 in
theorem rune_f (s : ByteArray) (h : 0 < s.size) (k : Nat) : fathomref13_Rune.f (k + 12) s = some (runeN s 0 : Int) := by
  have hb0 := s[0].toNat_lt
  have c0 : bt s 0 = (s[0].toNat : Int) := bt_at s 0 h
  have g0 := get!_nat s 0 h
  obtain ⟨f, hf⟩ := byteF s[0]
  rw [fathomref13_Rune.f, if_neg (by omega), if_pos (by omega), c0, runeN]
  unfold Utf8.decode
  simp only [Nat.add_zero, Nat.zero_add, g0, Utf8.runeError]
  generalize hv : s[0].toNat = b at *
  by_cases h1 : b < 128
  · rw [if_pos (by omega), if_pos h1, if_neg (by simp; omega)]
    rfl
  · rw [if_neg (by omega), if_neg h1]
    by_cases h2 : b / 32 = 6
    · rw [if_pos (show (b : Int) ≥ 192 by omega), decide_eq_true (show (b : Int) < 224 by omega), fathomref13_Rune.j0, if_pos rfl]
      have l2 := lead2 f
      rw [hf] at l2
      have j2 : fathomref13_Rune.j2 (k + 11) s (b : Int) 2 128 = if s.size < 2 then some 0 else fathomref13_Rune.l0 (k + 10) s 2 128 (((b % 32) : Nat) : Int) ((1 : Nat) : Int) := rune_j2 (k + 10) s b 2 128 (by omega) (b % 32) l2
      rw [j2]
      have q16 : (b / 16 == 14) = false := beq_false_of_ne (by omega)
      have q8 : (b / 8 == 30) = false := beq_false_of_ne (by omega)
      have q32 : (b / 32 == 6) = true := beq_iff_eq.2 h2
      rw [q16, q8, q32]
      by_cases hs : s.size < 2
      · rw [if_pos hs, decide_eq_false (show ¬ 1 < s.size by omega)]
        simp
      · have g1 := get!_nat s 1 (by omega)
        have s1 : fathomref13_Rune.l0 (k + 10) s 2 128 (((b % 32) : Nat) : Int) ((1 : Nat) : Int) = if s[1].toNat / 64 = 2 then fathomref13_Rune.l0 (k + 9) s 2 128 (((b % 32) * 64 + s[1].toNat % 64 : Nat) : Int) ((1 + 1 : Nat) : Int) else some 0 := rune_step (k + 9) s 2 128 ((b % 32)) 1 (by omega) (by omega) (by omega) (by omega)
        have s2 : fathomref13_Rune.l0 (k + 9) s 2 128 (((b % 32 * 64 + s[1].toNat % 64) : Nat) : Int) ((1 + 1 : Nat) : Int) = if (b % 32 * 64 + s[1].toNat % 64) < 128 ∨ 1114111 < (b % 32 * 64 + s[1].toNat % 64) ∨ (55296 ≤ (b % 32 * 64 + s[1].toNat % 64) ∧ (b % 32 * 64 + s[1].toNat % 64) < 57344) then some 0 else some 2 := rune_end (k + 7) s 2 128 (b % 32 * 64 + s[1].toNat % 64)
        rw [if_neg hs, s1, g1, decide_eq_true (show 1 < s.size by omega)]
        by_cases hc : s[1].toNat / 64 = 2
        · have hx : b % 32 * 64 + s[1].toNat % 64 ≤ 2047 := by omega
          rw [if_pos hc, s2, beq_iff_eq.2 hc]
          generalize b % 32 * 64 + s[1].toNat % 64 = v at *
          by_cases hv : v < 128
          · rw [if_pos (Or.inl hv)]
            simp [show ¬ 128 ≤ v by omega]
          · rw [if_neg (by omega)]
            simp [show 128 ≤ v by omega]
        · rw [if_neg hc, beq_false_of_ne hc]
          simp
    · have q32 : (b / 32 == 6) = false := beq_false_of_ne h2
      rw [q32]
      have e0 : (if (b : Int) ≥ 192 then fathomref13_Rune.j0 (k + 12) s (b : Int) (decide ((b : Int) < 224)) else fathomref13_Rune.j0 (k + 12) s (b : Int) false) = fathomref13_Rune.j0 (k + 12) s (b : Int) false := by
        by_cases h3 : (b : Int) ≥ 192
        · rw [if_pos h3, decide_eq_false (by omega)]
        · rw [if_neg h3]
      rw [e0, fathomref13_Rune.j0, if_neg (by decide)]
      by_cases h3 : b / 16 = 14
      · have q16 : (b / 16 == 14) = true := beq_iff_eq.2 h3
        have q8 : (b / 8 == 30) = false := beq_false_of_ne (by omega)
        rw [q16, q8, if_pos (by omega), decide_eq_true (by omega), fathomref13_Rune.j1, if_pos rfl]
        have l3 := lead3 f
        rw [hf] at l3
        have j2 : fathomref13_Rune.j2 (k + 10) s (b : Int) 3 2048 = if s.size < 3 then some 0 else fathomref13_Rune.l0 (k + 9) s 3 2048 (((b % 16) : Nat) : Int) ((1 : Nat) : Int) := rune_j2 (k + 9) s b 3 2048 (by omega) (b % 16) l3
        rw [j2]
        by_cases hs1 : s.size < 2
        · rw [if_pos (by omega), decide_eq_false (show ¬ 1 < s.size by omega)]
          simp
        · have g1 := get!_nat s 1 (by omega)
          rw [g1, decide_eq_true (show 1 < s.size by omega)]
          by_cases hs : s.size < 3
          · rw [if_pos hs, decide_eq_false (show ¬ 2 < s.size by omega)]
            simp
          · have g2 := get!_nat s 2 (by omega)
            have s1 : fathomref13_Rune.l0 (k + 9) s 3 2048 (((b % 16) : Nat) : Int) ((1 : Nat) : Int) = if s[1].toNat / 64 = 2 then fathomref13_Rune.l0 (k + 8) s 3 2048 (((b % 16) * 64 + s[1].toNat % 64 : Nat) : Int) ((1 + 1 : Nat) : Int) else some 0 := rune_step (k + 8) s 3 2048 ((b % 16)) 1 (by omega) (by omega) (by omega) (by omega)
            rw [if_neg hs, s1, g2, decide_eq_true (show 2 < s.size by omega)]
            by_cases hc : s[1].toNat / 64 = 2
            · have s2 : fathomref13_Rune.l0 (k + 8) s 3 2048 (((b % 16 * 64 + s[1].toNat % 64) : Nat) : Int) ((1 + 1 : Nat) : Int) = if s[2].toNat / 64 = 2 then fathomref13_Rune.l0 (k + 7) s 3 2048 (((b % 16 * 64 + s[1].toNat % 64) * 64 + s[2].toNat % 64 : Nat) : Int) ((2 + 1 : Nat) : Int) else some 0 := rune_step (k + 7) s 3 2048 ((b % 16 * 64 + s[1].toNat % 64)) 2 (by omega) (by omega) (by omega) (by omega)
              rw [if_pos hc, s2, beq_iff_eq.2 hc]
              by_cases hd : s[2].toNat / 64 = 2
              · have s3 : fathomref13_Rune.l0 (k + 7) s 3 2048 ((((b % 16 * 64 + s[1].toNat % 64) * 64 + s[2].toNat % 64) : Nat) : Int) ((2 + 1 : Nat) : Int) = if ((b % 16 * 64 + s[1].toNat % 64) * 64 + s[2].toNat % 64) < 2048 ∨ 1114111 < ((b % 16 * 64 + s[1].toNat % 64) * 64 + s[2].toNat % 64) ∨ (55296 ≤ ((b % 16 * 64 + s[1].toNat % 64) * 64 + s[2].toNat % 64) ∧ ((b % 16 * 64 + s[1].toNat % 64) * 64 + s[2].toNat % 64) < 57344) then some 0 else some 3 := rune_end (k + 5) s 3 2048 ((b % 16 * 64 + s[1].toNat % 64) * 64 + s[2].toNat % 64)
                rw [if_pos hd, s3, beq_iff_eq.2 hd]
                rw [show b % 16 * 4096 + s[1].toNat % 64 * 64 + s[2].toNat % 64 = (b % 16 * 64 + s[1].toNat % 64) * 64 + s[2].toNat % 64 by omega, valid_iff]
                generalize (b % 16 * 64 + s[1].toNat % 64) * 64 + s[2].toNat % 64 = v at *
                by_cases hv : v < 2048 ∨ 1114111 < v ∨ (55296 ≤ v ∧ v < 57344)
                · rw [if_pos hv]
                  by_cases hv1 : v < 2048
                  · simp [show ¬ 2048 ≤ v by omega]
                  · rw [decide_eq_false (show ¬ ¬ (1114111 < v ∨ (55296 ≤ v ∧ v < 57344)) by omega)]
                    simp
                · rw [if_neg hv, decide_eq_true (show ¬ (1114111 < v ∨ (55296 ≤ v ∧ v < 57344)) by omega)]
                  simp [show 2048 ≤ v by omega]
              · rw [if_neg hd, beq_false_of_ne hd]
                simp
            · rw [if_neg hc, beq_false_of_ne hc]
              simp
      · have q16 : (b / 16 == 14) = false := beq_false_of_ne h3
        rw [q16]
        have e1 : (if (b : Int) ≥ 224 then fathomref13_Rune.j1 (k + 11) s (b : Int) (decide ((b : Int) < 240)) else fathomref13_Rune.j1 (k + 11) s (b : Int) false) = fathomref13_Rune.j1 (k + 11) s (b : Int) false := by
          by_cases h4 : (b : Int) ≥ 224
          · rw [if_pos h4, decide_eq_false (by omega)]
          · rw [if_neg h4]
        rw [e1, fathomref13_Rune.j1, if_neg (by decide)]
        by_cases h4 : b / 8 = 30
        · have q8 : (b / 8 == 30) = true := beq_iff_eq.2 h4
          rw [q8, if_pos (by omega), if_pos (by omega)]
          have l4 := lead4 f
          rw [hf] at l4
          have j2 : fathomref13_Rune.j2 (k + 10) s (b : Int) 4 65536 = if s.size < 4 then some 0 else fathomref13_Rune.l0 (k + 9) s 4 65536 (((b % 8) : Nat) : Int) ((1 : Nat) : Int) := rune_j2 (k + 9) s b 4 65536 (by omega) (b % 8) l4
          rw [j2]
          by_cases hs1 : s.size < 2
          · rw [if_pos (by omega), decide_eq_false (show ¬ 1 < s.size by omega)]
            simp
          · have g1 := get!_nat s 1 (by omega)
            rw [g1, decide_eq_true (show 1 < s.size by omega)]
            by_cases hs2 : s.size < 3
            · rw [if_pos (by omega), decide_eq_false (show ¬ 2 < s.size by omega)]
              simp
            · have g2 := get!_nat s 2 (by omega)
              rw [g2, decide_eq_true (show 2 < s.size by omega)]
              by_cases hs : s.size < 4
              · rw [if_pos hs, decide_eq_false (show ¬ 3 < s.size by omega)]
                simp
              · have g3 := get!_nat s 3 (by omega)
                have s1 : fathomref13_Rune.l0 (k + 9) s 4 65536 (((b % 8) : Nat) : Int) ((1 : Nat) : Int) = if s[1].toNat / 64 = 2 then fathomref13_Rune.l0 (k + 8) s 4 65536 (((b % 8) * 64 + s[1].toNat % 64 : Nat) : Int) ((1 + 1 : Nat) : Int) else some 0 := rune_step (k + 8) s 4 65536 ((b % 8)) 1 (by omega) (by omega) (by omega) (by omega)
                rw [if_neg hs, s1, g3, decide_eq_true (show 3 < s.size by omega)]
                by_cases hc : s[1].toNat / 64 = 2
                · have s2 : fathomref13_Rune.l0 (k + 8) s 4 65536 (((b % 8 * 64 + s[1].toNat % 64) : Nat) : Int) ((1 + 1 : Nat) : Int) = if s[2].toNat / 64 = 2 then fathomref13_Rune.l0 (k + 7) s 4 65536 (((b % 8 * 64 + s[1].toNat % 64) * 64 + s[2].toNat % 64 : Nat) : Int) ((2 + 1 : Nat) : Int) else some 0 := rune_step (k + 7) s 4 65536 ((b % 8 * 64 + s[1].toNat % 64)) 2 (by omega) (by omega) (by omega) (by omega)
                  rw [if_pos hc, s2, beq_iff_eq.2 hc]
                  by_cases hd : s[2].toNat / 64 = 2
                  · have s3 : fathomref13_Rune.l0 (k + 7) s 4 65536 ((((b % 8 * 64 + s[1].toNat % 64) * 64 + s[2].toNat % 64) : Nat) : Int) ((2 + 1 : Nat) : Int) = if s[3].toNat / 64 = 2 then fathomref13_Rune.l0 (k + 6) s 4 65536 ((((b % 8 * 64 + s[1].toNat % 64) * 64 + s[2].toNat % 64) * 64 + s[3].toNat % 64 : Nat) : Int) ((3 + 1 : Nat) : Int) else some 0 := rune_step (k + 6) s 4 65536 (((b % 8 * 64 + s[1].toNat % 64) * 64 + s[2].toNat % 64)) 3 (by omega) (by omega) (by omega) (by omega)
                    rw [if_pos hd, s3, beq_iff_eq.2 hd]
                    by_cases he : s[3].toNat / 64 = 2
                    · have s4 : fathomref13_Rune.l0 (k + 6) s 4 65536 (((((b % 8 * 64 + s[1].toNat % 64) * 64 + s[2].toNat % 64) * 64 + s[3].toNat % 64) : Nat) : Int) ((3 + 1 : Nat) : Int) = if (((b % 8 * 64 + s[1].toNat % 64) * 64 + s[2].toNat % 64) * 64 + s[3].toNat % 64) < 65536 ∨ 1114111 < (((b % 8 * 64 + s[1].toNat % 64) * 64 + s[2].toNat % 64) * 64 + s[3].toNat % 64) ∨ (55296 ≤ (((b % 8 * 64 + s[1].toNat % 64) * 64 + s[2].toNat % 64) * 64 + s[3].toNat % 64) ∧ (((b % 8 * 64 + s[1].toNat % 64) * 64 + s[2].toNat % 64) * 64 + s[3].toNat % 64) < 57344) then some 0 else some 4 := rune_end (k + 4) s 4 65536 (((b % 8 * 64 + s[1].toNat % 64) * 64 + s[2].toNat % 64) * 64 + s[3].toNat % 64)
                      rw [if_pos he, s4, beq_iff_eq.2 he]
                      rw [show b % 8 * 262144 + s[1].toNat % 64 * 4096 + s[2].toNat % 64 * 64 + s[3].toNat % 64 = ((b % 8 * 64 + s[1].toNat % 64) * 64 + s[2].toNat % 64) * 64 + s[3].toNat % 64 by omega]
                      generalize ((b % 8 * 64 + s[1].toNat % 64) * 64 + s[2].toNat % 64) * 64 + s[3].toNat % 64 = v at *
                      rw [valid_iff v]
                      by_cases hv : v < 65536 ∨ 1114111 < v ∨ (55296 ≤ v ∧ v < 57344)
                      · rw [if_pos hv]
                        by_cases hv1 : v < 65536
                        · simp [show ¬ 65536 ≤ v by omega]
                        · rw [decide_eq_false (show ¬ ¬ (1114111 < v ∨ (55296 ≤ v ∧ v < 57344)) by omega)]
                          simp
                      · rw [if_neg hv, decide_eq_true (show ¬ (1114111 < v ∨ (55296 ≤ v ∧ v < 57344)) by omega)]
                        simp [show 65536 ≤ v by omega]
                    · rw [if_neg he, beq_false_of_ne he]
                      simp
                  · rw [if_neg hd, beq_false_of_ne hd]
                    simp
                · rw [if_neg hc, beq_false_of_ne hc]
                  simp
        · have q8 : (b / 8 == 30) = false := beq_false_of_ne h4
          rw [q8]
          have e2 : (if (b : Int) ≥ 240 then (if (b : Int) < 248 then fathomref13_Rune.j2 (k + 10) s (b : Int) 4 65536 else some 0) else some 0) = some (0 : Int) := by
            by_cases h5 : (b : Int) ≥ 240
            · rw [if_pos h5, if_neg (by omega)]
            · rw [if_neg h5]
          rw [e2]
          simp
end
section
open Go.RowKit Go.Proofs.YtkanfffbdegfoaaGreatDoorW.PrintWords Go.Proofs.YtkanfffbdegfoaaGreatDoorW.PrintLast Go.Proofs.YtkanfffbdegfoaaGreatDoorW.PrintMore

theorem rune_at (s : ByteArray) (i : Nat) (h : i < s.size) (k : Nat) : fathomref13_Rune.f (k + 12) (s.extract i s.size) = some (runeN s i : Int) := by
  rw [rune_f _ (by simp; omega), runeN, Lib.tail_decode, Nat.add_zero, runeN]
set_option maxHeartbeats 1000000 in
theorem N_fffd (n b0 b1 b2 b3 : Nat) (h0 : b0 < 256) (_h1 : b1 < 256) (_h2 : b2 < 256) (h : (Lib.decodeN n b0 b1 b2 b3).1 = 65533) :
    Lib.decodeN n b0 b1 b2 b3 = (65533, 1) ∨ (2 < n ∧ b0 = 239 ∧ b1 = 191 ∧ b2 = 189) := by
  revert h
  unfold Lib.decodeN
  repeat' split
  all_goals intro h
  all_goals simp only at h
  all_goals first
    | exact Or.inl rfl
    | (exfalso; omega)
    | (right; omega)
theorem fffd_N (n b3 : Nat) (hn : 2 < n) : Lib.decodeN n 239 191 189 b3 = (65533, 3) := by
  unfold Lib.decodeN
  simp [hn, show 1 < n by omega]
theorem u8n (b c : UInt8) : (c == b) = true ↔ b.toNat = c.toNat := by
  rw [beq_iff_eq]
  exact ⟨fun h => by rw [h], fun h => (UInt8.toNat_inj.1 h).symm⟩
theorem pre_iff (s : ByteArray) (i : Nat) : Lib.hasPrefix (s.data.toList.drop i) [239, 191, 189] = true ↔ (i + 2 < s.size ∧ (s.get! i).toNat = 239 ∧ (s.get! (i + 1)).toNat = 191 ∧ (s.get! (i + 2)).toNat = 189) := by
  by_cases h : i + 2 < s.size
  · rw [drop_at s i (by omega), drop_at s (i + 1) (by omega), drop_at s (i + 1 + 1) (by omega), get!_at s i (by omega), get!_at s (i + 1) (by omega), get!_at s (i + 2) h]
    unfold Lib.hasPrefix
    rw [List.isPrefixOf_cons_cons, List.isPrefixOf_cons_cons, List.isPrefixOf_cons_cons, Bool.and_eq_true, Bool.and_eq_true, Bool.and_eq_true, u8n, u8n, u8n]
    simp [h]
  · constructor
    · intro hp
      have := (List.isPrefixOf_iff_prefix.1 hp).length_le
      rw [List.length_drop, data_length] at this
      simp at this
      omega
    · intro hh; omega
theorem rune_zero (s : ByteArray) (i : Nat) (h : i < s.size) : runeN s i = 0 ↔ (Utf8.decode s i).1 = 65533 ∧ Lib.hasPrefix (s.extract i s.size).data.toList [239, 191, 189] = false := by
  have ht : (s.extract i s.size).data.toList = s.data.toList.drop i := (Stands.tail ⟨by omega, rfl⟩)
  have hp := pre_iff s i
  have hw := width_pos s i h
  rw [ht, runeN]
  have hd := Lib.decode_at s i
  constructor
  · intro hz
    by_cases hb : Utf8.decode s i = (65533, 1)
    · refine ⟨by rw [hb], ?_⟩
      cases hx : Lib.hasPrefix (s.data.toList.drop i) [239, 191, 189]
      · rfl
      · obtain ⟨h1, h2, h3, h4⟩ := hp.1 hx
        rw [hd, h2, h3, h4, fffd_N _ _ (by omega)] at hb
        cases hb
    · rw [if_neg hb] at hz; omega
  · rintro ⟨h1, h2⟩
    rw [hd] at h1
    rcases N_fffd _ _ _ _ _ (UInt8.toNat_lt _) (UInt8.toNat_lt _) (UInt8.toNat_lt _) h1 with hb | ⟨a1, a2, a3, a4⟩
    · rw [← hd] at hb
      rw [if_pos hb]
    · rw [hp.2 ⟨by omega, a2, a3, a4⟩] at h2
      cases h2
theorem value_loop (s : ByteArray) (hs : s.size ≤ 4611686018427387904) : ∀ (d b i k : Nat), s.size - i ≤ d → d ≤ b → i ≤ s.size → d + 13 ≤ k → fathomref13_Value.l0 k s (i : Int) = some (okFrom s b i) := by
  intro d
  induction d with
  | zero =>
    intro b i k hd hb hi hk
    obtain ⟨k, rfl⟩ : ∃ m, k = m + 1 := ⟨k - 1, by omega⟩
    rw [fathomref13_Value.l0, if_neg (by omega), ok_end s b i (by omega)]
  | succ d ih =>
    intro b i k hd hb hi hk
    obtain ⟨k, rfl⟩ : ∃ m, k = m + 13 := ⟨k - 13, by omega⟩
    by_cases h : i < s.size
    · obtain ⟨b, rfl⟩ : ∃ m, b = m + 1 := ⟨b - 1, by omega⟩
      rw [show k + 13 = (k + 12) + 1 from rfl, fathomref13_Value.l0, if_pos (by omega), if_pos (by omega), if_pos (by omega), Int.toNat_natCast, rune_at s i h]
      simp only [Option.bind_some]
      have hz := rune_zero s i h
      by_cases h0 : runeN s i = 0
      · rw [if_pos (by omega), okFrom, if_pos h, if_pos (hz.1 h0)]
      · have hw := width_pos s i h
        have hl := dec_le s i h
        have hr : runeN s i = (Utf8.decode s i).2 := by
          rw [runeN] at h0 ⊢
          split at h0
          · exact absurd rfl h0
          · rename_i hne
            rw [if_neg hne]
        rw [if_neg (by omega), okFrom, if_pos h, if_neg (fun hh => h0 (hz.2 hh)), hr]
        have e : wrap64 ((i : Int) + ((Utf8.decode s i).2 : Int)) = ((i + (Utf8.decode s i).2 : Nat) : Int) := by unfold wrap64; omega
        rw [e]
        exact ih b _ (k + 12) (by omega) (by omega) (by omega) (by omega)
    · rw [show k + 13 = (k + 12) + 1 from rfl, fathomref13_Value.l0, if_neg (by omega), ok_end s b i h]
theorem value_f (s : ByteArray) (k : Nat) (hk : 300 ≤ k) : fathomref13_Value.f k s = some (valB s) := by
  rw [fathomref13_Value.f, valB]
  by_cases h : 256 < s.size
  · rw [if_pos (by omega), decide_eq_false (by omega), Bool.and_false]
  · have := value_loop s (by omega) s.size s.size 0 k (by omega) (by omega) (by omega) (by omega)
    rw [if_neg (by omega), show (0 : Int) = ((0 : Nat) : Int) from rfl, this, decide_eq_true (by omega), Bool.and_true]
/-! ### names -/
theorem first_f (b : UInt8) : fathomref13_first.f (b.toNat : Int) = some (firstB b.toNat) := by
  have : ∀ f : Fin 256, fathomref13_first.f (f.val : Int) = some (firstB f.val) := by decide +kernel
  exact this ⟨b.toNat, b.toNat_lt⟩
theorem further_f (b : UInt8) : fathomref13_further.f (b.toNat : Int) = some (furtherB b.toNat) := by
  have : ∀ f : Fin 256, fathomref13_further.f (f.val : Int) = some (furtherB f.val) := by decide +kernel
  exact this ⟨b.toNat, b.toNat_lt⟩
theorem name_loop (s : ByteArray) (hs : s.size ≤ 4611686018427387904) : ∀ (d i k : Nat), s.size - i ≤ d → 1 ≤ i → i ≤ s.size → 2 * d + 1 ≤ k → fathomref13_Name.l0 k s (i : Int) = some (decide (1 ≤ s.size ∧ s.size ≤ 64) && (s.data.toList.drop i).all (fun c => furtherB c.toNat)) := by
  intro d
  have e0 : ∀ (i k : Nat), s.size ≤ i → fathomref13_Name.l0 (k + 1) s (i : Int) = some (decide (1 ≤ s.size ∧ s.size ≤ 64) && (s.data.toList.drop i).all (fun c => furtherB c.toNat)) := by
    intro i k h
    rw [fathomref13_Name.l0, if_neg (by omega), List.drop_eq_nil_of_le (by rw [data_length]; omega)]
    by_cases h1 : 1 ≤ s.size
    · rw [if_pos (by omega)]
      by_cases h2 : s.size ≤ 64
      · rw [decide_eq_true (by omega), decide_eq_true ⟨h1, h2⟩]; rfl
      · rw [decide_eq_false (by omega), decide_eq_false (by omega)]; rfl
    · rw [if_neg (by omega), decide_eq_false (by omega)]; rfl
  induction d with
  | zero =>
    intro i k hd h1 hi hk
    obtain ⟨k, rfl⟩ : ∃ m, k = m + 1 := ⟨k - 1, by omega⟩
    exact e0 i k (by omega)
  | succ d ih =>
    intro i k hd h1 hi hk
    obtain ⟨k, rfl⟩ : ∃ m, k = m + 2 := ⟨k - 2, by omega⟩
    by_cases h : i < s.size
    · have e : wrap64 ((i : Int) + 1) = ((i + 1 : Nat) : Int) := by unfold wrap64; omega
      rw [fathomref13_Name.l0, if_pos (by omega), if_pos (by omega), bt_at s i h, further_f]
      simp only [Option.bind_some]
      rw [drop_at s i h, List.all_cons]
      cases hf : furtherB s[i].toNat
      · rw [if_neg (by decide), fathomref13_Name.j1, if_pos rfl]
        simp
      · rw [if_pos rfl, if_neg (by omega), fathomref13_Name.j1, if_neg (by decide), e, ih (i + 1) k (by omega) (by omega) (by omega) (by omega)]
        simp
    · exact e0 i (k + 1) (by omega)
theorem name_f (s : ByteArray) (hs : s.size ≤ 4611686018427387904) (k : Nat) (hk : 2 * s.size + 3 ≤ k) : fathomref13_Name.f k s = some (nameB s) := by
  obtain ⟨k, rfl⟩ : ∃ m, k = m + 2 := ⟨k - 2, by omega⟩
  rw [fathomref13_Name.f, fathomref13_Name.l0, nameB]
  by_cases h : 0 < s.size
  · have d0 := drop_at s 0 h
    rw [List.drop_zero] at d0
    have b0 : bt s 0 = (s[0].toNat : Int) := bt_at s 0 h
    rw [if_pos (by omega), if_pos (by omega), b0, further_f]
    rw [Option.bind_some, d0, List.all_cons]
    cases hf : furtherB s[0].toNat
    · rw [if_neg (by decide), fathomref13_Name.j1, if_pos rfl]
      simp
    · rw [if_pos rfl, if_pos (show (0 : Int) = 0 from rfl), first_f]
      simp only [Option.bind_some]
      have e : wrap64 ((0 : Int) + 1) = ((1 : Nat) : Int) := by unfold wrap64; omega
      cases hg : firstB s[0].toNat
      · rw [fathomref13_Name.j1, if_pos (by decide)]
        simp [hg]
      · have := name_loop s hs s.size 1 k (by omega) (by omega) (by omega) (by omega)
        rw [fathomref13_Name.j1, if_neg (by decide), e, this]
        simp [hg]
  · rw [if_neg (by omega), if_neg (by omega), decide_eq_false (by omega)]
    simp
end
section
open Go.RowKit Go.Proofs.YtkanfffbdegfoaaGreatDoorW.PrintWords Go.Proofs.YtkanfffbdegfoaaGreatDoorW.PrintLast Go.Proofs.YtkanfffbdegfoaaGreatDoorW.PrintMore

theorem str_intsR (bs : List UInt8) : strOfNums (ints bs) = ⟨bs.toArray⟩ := by
  have e : (ints bs).map (fun n => UInt8.ofNat n.toNat) = bs := by
    rw [ints, List.map_map]
    conv => rhs; rw [← List.map_id bs]
    refine List.map_congr_left fun b _ => ?_
    simp
  rw [strOfNums, e]
def digS : ByteArray := ⟨#[48, 49, 50, 51, 52, 53, 54, 55, 56, 57, 97, 98, 99, 100, 101, 102]⟩
theorem digs : ∀ f : Fin 256, (0 ≤ (Int.tdiv (f.val : Int) 16) % 256 ∧ (Int.tdiv (f.val : Int) 16) % 256 < 16 ∧ 0 ≤ Int.tmod (f.val : Int) 16 ∧ Int.tmod (f.val : Int) 16 < 16) ∧
    bt digS ((Int.tdiv (f.val : Int) 16) % 256) = ((hexd (f.val / 16)).toNat : Int) ∧ bt digS (Int.tmod (f.val : Int) 16) = ((hexd (f.val % 16)).toNat : Int) := by decide +kernel
theorem dec_ascii (s : ByteArray) (i : Nat) (h : i < s.size) (ha : s[i].toNat < 128) : Utf8.decode s i = (s[i].toNat, 1) := by
  rw [Lib.decode_at, get!_at s i h, Lib.decodeN, if_pos ha]
theorem fin_str (acc : List UInt8) : strOfNums (ints acc ++ [34]) = ⟨(acc ++ [34]).toArray⟩ := by
  rw [show ([34] : List Int) = ints [34] from rfl, ← ints_append, str_intsR]
theorem quote_go (s : ByteArray) (b i d : Nat) (acc : List UInt8) (ha : acc.length ≤ 4 * i + 1) (hs : s.size ≤ 100000)
    (ih : ∀ (w k' : Nat) (acc' : List UInt8), 1 ≤ w → i + w ≤ s.size → acc'.length ≤ 4 * (i + w) + 1 → 3 * d + 20 ≤ k' → fathomref13_Quote.l0 k' s (ints acc') ((i + w : Nat) : Int) = some ⟨(acc' ++ quoteFrom s b (i + w) ++ [34]).toArray⟩)
    (y : List UInt8) (yi : List Int) (x : Int) (w : Nat) (hy : yi = ints y) (hyl : y.length ≤ 4 * w) (hiw : i + w ≤ s.size) (hw1 : 1 ≤ w) (hx : x = (i + w : Nat)) (k' : Nat) (hk' : 3 * d + 20 ≤ k') :
    (if (ints acc).length + yi.length < 140737488355328 then fathomref13_Quote.l0 k' s (ints acc ++ yi) (wrap64 x) else none) = some ⟨(acc ++ (y ++ quoteFrom s b (i + w)) ++ [34]).toArray⟩ := by
  have h1 : (ints acc).length + yi.length < 140737488355328 := by rw [hy, ints_length, ints_length]; omega
  have e : wrap64 x = ((i + w : Nat) : Int) := by rw [hx]; unfold wrap64; omega
  have h2 := ih w k' (acc ++ y) hw1 hiw (by rw [List.length_append]; omega) hk'
  rw [if_pos h1, e, hy, ← ints_append, h2, List.append_assoc acc y]
set_option maxHeartbeats 2000000 in
theorem quote_loop (s : ByteArray) (hs : s.size ≤ 100000) : ∀ (d b i : Nat) (acc : List UInt8) (k : Nat), s.size - i ≤ d → d < b → i ≤ s.size → acc.length ≤ 4 * i + 1 → 3 * d + 20 ≤ k → fathomref13_Quote.l0 k s (ints acc) (i : Int) = some ⟨(acc ++ quoteFrom s b i ++ [34]).toArray⟩ := by
  intro d
  have e0 : ∀ (b i : Nat) (acc : List UInt8) (k : Nat), s.size ≤ i → i ≤ s.size → acc.length ≤ 4 * i + 1 → fathomref13_Quote.l0 (k + 1) s (ints acc) (i : Int) = some ⟨(acc ++ quoteFrom s b i ++ [34]).toArray⟩ := by
    intro b i acc k h hi ha
    rw [fathomref13_Quote.l0, if_neg (by omega), quote_over (by omega), ints_length, if_pos (by omega), fin_str, List.append_nil]
  induction d with
  | zero =>
    intro b i acc k hd hb hi ha hk
    obtain ⟨k, rfl⟩ : ∃ m, k = m + 1 := ⟨k - 1, by omega⟩
    exact e0 b i acc k (by omega) hi ha
  | succ d ih =>
    intro b i acc k hd hb hi ha hk
    obtain ⟨k, rfl⟩ : ∃ m, k = m + 15 := ⟨k - 15, by omega⟩
    by_cases h : i < s.size
    · obtain ⟨b, rfl⟩ : ∃ m, b = m + 1 := ⟨b - 1, by omega⟩
      have hw := width_pos s i h
      have hl := dec_le s i h
      rw [show k + 15 = (k + 14) + 1 from rfl, fathomref13_Quote.l0, if_pos (by omega), if_pos (by omega), if_pos (by omega), Int.toNat_natCast, show k + 14 = (k + 2) + 12 from rfl, rune_at s i h]
      rw [Option.bind_some, bt_at s i h, quote_step h, qPiece]
      have hih : ∀ (w k' : Nat) (acc' : List UInt8), 1 ≤ w → i + w ≤ s.size → acc'.length ≤ 4 * (i + w) + 1 → 3 * d + 20 ≤ k' → fathomref13_Quote.l0 k' s (ints acc') ((i + w : Nat) : Int) = some ⟨(acc' ++ quoteFrom s b (i + w) ++ [34]).toArray⟩ := by
        intro w k' acc' h1 h2 h3 h4
        clear e0
        have h5 : s.size - (i + w) ≤ d := by omega
        have h6 : d < b := by omega
        exact ih b (i + w) acc' k' h5 h6 h2 h3 h4
      have go := quote_go s b i d acc ha hs hih
      by_cases hq : s[i].toNat = 34 ∨ s[i].toNat = 92
      · have hd := dec_ascii s i h (by omega)
        have hr : runeN s i = 1 := by rw [runeN, hd, if_neg (by simp; omega)]
        rw [if_pos hq, hr, hd]
        have ej : (if (s[i].toNat : Int) = 34 then fathomref13_Quote.j1 (k + 2 + 12) s (ints acc) (i : Int) (s[i].toNat : Int) ((1 : Nat) : Int) true else fathomref13_Quote.j1 (k + 2 + 12) s (ints acc) (i : Int) (s[i].toNat : Int) ((1 : Nat) : Int) ((s[i].toNat : Int) == 92)) = fathomref13_Quote.j1 (k + 2 + 12) s (ints acc) (i : Int) (s[i].toNat : Int) ((1 : Nat) : Int) true := by
          by_cases h34 : s[i].toNat = 34
          · rw [if_pos (by omega)]
          · rw [if_neg (by omega), show ((s[i].toNat : Int) == 92) = true from beq_iff_eq.2 (by omega)]
        rw [ej, fathomref13_Quote.j1, if_pos (show true = true from rfl), Option.bind_some]
        have g := go [92, s[i]] [92, (s[i].toNat : Int)] ((i : Int) + ((1 : Nat) : Int)) 1 rfl (by simp) (by omega) (by omega) (by omega) (k + 2 + 11) (by omega)
        exact g
      · rw [if_neg hq]
        have ej : (if (s[i].toNat : Int) = 34 then fathomref13_Quote.j1 (k + 2 + 12) s (ints acc) (i : Int) (s[i].toNat : Int) (runeN s i : Int) true else fathomref13_Quote.j1 (k + 2 + 12) s (ints acc) (i : Int) (s[i].toNat : Int) (runeN s i : Int) ((s[i].toNat : Int) == 92)) = fathomref13_Quote.j1 (k + 2 + 12) s (ints acc) (i : Int) (s[i].toNat : Int) (runeN s i : Int) false := by
          rw [if_neg (by omega), show ((s[i].toNat : Int) == 92) = false from beq_false_of_ne (by omega)]
        rw [ej, fathomref13_Quote.j1, if_neg (by decide)]
        by_cases h10 : s[i].toNat = 10
        · have hd := dec_ascii s i h (by omega)
          have hr : runeN s i = 1 := by rw [runeN, hd, if_neg (by simp; omega)]
          rw [if_pos h10, if_pos (by omega), hr, hd, Option.bind_some]
          have g := go [92, 110] [92, 110] ((i : Int) + ((1 : Nat) : Int)) 1 rfl (by simp) (by omega) (by omega) (by omega) (k + 2 + 11) (by omega)
          exact g
        · rw [if_neg h10, if_neg (by omega)]
          by_cases hx : s[i].toNat < 32 ∨ s[i].toNat = 127 ∨ ((Utf8.decode s i).1 = 65533 ∧ (Utf8.decode s i).2 = 1)
          · rw [if_pos hx]
            have ew : (Utf8.decode s i).2 = 1 := by
              rcases hx with h1 | h1 | h1
              · rw [dec_ascii s i h (by omega)]
              · rw [dec_ascii s i h (by omega)]
              · exact h1.2
            have ej : (if (s[i].toNat : Int) < 32 then fathomref13_Quote.j2 (k + 13) s (ints acc) (i : Int) (s[i].toNat : Int) (runeN s i : Int) true else if (s[i].toNat : Int) = 127 then fathomref13_Quote.j2 (k + 13) s (ints acc) (i : Int) (s[i].toNat : Int) (runeN s i : Int) true else fathomref13_Quote.j2 (k + 13) s (ints acc) (i : Int) (s[i].toNat : Int) (runeN s i : Int) ((runeN s i : Int) == 0)) = fathomref13_Quote.j2 (k + 13) s (ints acc) (i : Int) (s[i].toNat : Int) (runeN s i : Int) true := by
              by_cases h1 : s[i].toNat < 32
              · rw [if_pos (by omega)]
              · rw [if_neg (by omega)]
                by_cases h2 : s[i].toNat = 127
                · rw [if_pos (by omega)]
                · have hd : Utf8.decode s i = (65533, 1) := by
                    rcases hx with h3 | h3 | h3
                    · omega
                    · omega
                    · exact Prod.ext h3.1 h3.2
                  rw [if_neg (by omega), runeN, if_pos hd]
                  rfl
            rw [show k + 2 + 11 = k + 13 from rfl, ej, ew]
            obtain ⟨⟨d1, d2, d3, d4⟩, d5, d6⟩ := digs ⟨s[i].toNat, s[i].toNat_lt⟩
            rw [fathomref13_Quote.j2, if_pos (show true = true from rfl), if_pos d1, if_pos d2, if_pos d3, if_pos d4, Option.bind_some]
            rw [show (⟨#[48, 49, 50, 51, 52, 53, 54, 55, 56, 57, 97, 98, 99, 100, 101, 102]⟩ : ByteArray) = digS from rfl, d5, d6]
            have g := go [92, 120, hexd (s[i].toNat / 16), hexd (s[i].toNat % 16)] [92, 120, ((hexd (s[i].toNat / 16)).toNat : Int), ((hexd (s[i].toNat % 16)).toNat : Int)] ((i : Int) + 1) 1 rfl (by simp) (by omega) (by omega) (by omega) (k + 12) (by omega)
            exact g
          · rw [if_neg hx]
            have hd : ¬ Utf8.decode s i = (65533, 1) := fun he => hx (Or.inr (Or.inr ⟨by rw [he], by rw [he]⟩))
            have hr : runeN s i = (Utf8.decode s i).2 := by rw [runeN, if_neg hd]
            rw [if_neg (by omega), if_neg (by omega), hr]
            clear hx hd ej hr h10 hq e0 ih
            generalize (Utf8.decode s i).2 = W at *
            rw [show ((W : Int) == 0) = false from beq_false_of_ne (by omega), show k + 2 + 11 = k + 12 + 1 from rfl, fathomref13_Quote.j2, if_neg (by decide)]
            have e : wrap64 ((i : Int) + (W : Int)) = ((i + W : Nat) : Int) := by unfold wrap64; omega
            have hxl : (s.extract i (i + W)).data.toList.length = W := by
              rw [extract_list s i _ hl, List.length_take, List.length_drop, data_length]
              exact Nat.min_eq_left (by omega)
            have hxs : (s.extract i (i + W)).size = W := by rw [← data_length]; exact hxl
            have hal : (ints acc).length + W < 140737488355328 := by rw [ints_length]; omega
            have g := go (s.extract i (i + W)).data.toList (ints (s.extract i (i + W)).data.toList) ((i : Int) + (W : Int)) W rfl (by rw [hxl]; omega) hl hw (by omega) (k + 12) (by omega)
            rw [ints_length (s.extract i (i + W)).data.toList, hxl, e, if_pos hal] at g
            rw [e, if_pos (by omega), if_pos (by omega), if_pos (by omega), Int.toNat_natCast, Int.toNat_natCast, bytesOf_ints, hxs, if_pos hal]
            exact g
    · exact e0 b i acc (k + 14) (by omega) hi ha
theorem quote_f (s : ByteArray) (hs : s.size ≤ 100000) (k : Nat) (hk : 3 * s.size + 20 ≤ k) : fathomref13_Quote.f k s = some ⟨(quoteL s).toArray⟩ := by
  have := quote_loop s hs s.size (s.size + 1) 0 [34] k (by omega) (by omega) (by omega) (by simp) hk
  rw [fathomref13_Quote.f, quoteL]
  exact this
theorem rname_calls (s : ByteArray) (hs : s.size ≤ 100000) (w : World) : Calls Tryz.prog 87 #[.string s] w fun e w' => e = .returned (.bool (nameB s)) ∧ Below w.heap.size w w' :=
  (fathomref13_Name.calls _ s _ w (name_f s (by omega) (2 * s.size + 3) (Nat.le_refl _))).mono fun e w' h => ⟨h.1, below_drawn h.2⟩
theorem rval_calls (s : ByteArray) (w : World) : Calls Tryz.prog 88 #[.string s] w fun e w' => e = .returned (.bool (valB s)) ∧ Below w.heap.size w w' :=
  (fathomref13_Value.calls _ s _ w (value_f s 300 (Nat.le_refl _))).mono fun e w' h => ⟨h.1, below_drawn h.2⟩
theorem rquote_calls (s : ByteArray) (hs : s.size ≤ 100000) (w : World) : Calls Tryz.prog 13 #[.string s] w fun e w' => e = .returned (.string ⟨(quoteL s).toArray⟩) ∧ Below w.heap.size w w' :=
  fathomref13_Quote.calls _ s _ w (quote_f s hs (3 * s.size + 20) (Nat.le_refl _))
end
section
open Go.RowKit Go.Proofs.YtkanfffbdegfoaaGreatDoorW.PrintWords Go.Proofs.YtkanfffbdegfoaaGreatDoorW.PrintLast Go.Proofs.YtkanfffbdegfoaaGreatDoorW.PrintMore

theorem check_bad {m : S84} (h : badM m = true ∨ m.f0 < 1 ∨ 4 < m.f0) : checkV m = 135 := by
  rw [checkV, if_neg]
  rintro ⟨h1, h2, h3⟩
  rcases h with h | h | h
  · rw [h] at h1; cases h1
  · omega
  · omega
theorem check_good {m : S84} (h : badM m = false) (h1 : ¬ m.f0 < 1) (h2 : ¬ 4 < m.f0) : checkV m = 0 := by
  rw [checkV, if_pos ⟨h, by omega, by omega⟩]
theorem notEmpty_beq (s : ByteArray) : (s.toList != []) = (s.size != 0) := by
  by_cases h : s.size = 0
  · have h1 := isEmpty_yes s h
    rw [bne, h1, h]; rfl
  · have h1 := isEmpty_no s h
    rw [bne, h1, bne_iff_ne.2 h]; rfl
set_option maxHeartbeats 4000000 in
set_option maxRecDepth 100000 in
theorem refCheck_calls (m : S84) (A : Option Addr) (c : Nat) (w : World) (hC : Kd.C Kd.string w A m.f3.length m.f3) (h1 : m.f1.size ≤ 100000) (hl : m.f3.length ≤ 100000) :
    Calls Tryz.prog 35 #[.agg #[.int .i64 m.f0, .string m.f1, .string m.f2, .slice A m.f3.length c]] w fun e w' => e = .returned (.int .i64 (checkV m)) ∧ Below w.heap.size w w' := by
  have hx0 := heap_alloc_new w (.cells #[.int .i64 m.f0, .string m.f1, .string m.f2, .slice A m.f3.length c] 84)
  have hb0 := (Below.refl w.heap.size w).alloc (Nat.le_refl _) (.cells #[.int .i64 m.f0, .string m.f1, .string m.f2, .slice A m.f3.length c] 84)
  have HX0 := Lib.hid hx0
  have HB0 := Lib.hid hb0
  have HC := Lib.hid (Kd.C_below hC hb0)
  have hc0 := cell_at hx0 0
  have hc1 := cell_at hx0 1
  clear hx0 hb0 hC
  go_enter Tryz.func35, Tryz.ntmps35
  by_cases c1 : m.f0 < 1
  · have HE := Lib.hid (check_bad (m := m) (Or.inr (Or.inl c1)))
    go_wp2_with fail
    go_ret
    exact ⟨by rw [HE.out]; rfl, HB0.out⟩
  · by_cases c2 : 4 < m.f0
    · have HE := Lib.hid (check_bad (m := m) (Or.inr (Or.inr c2)))
      have c2' : m.f0 > 4 := c2
      go_wp2_with fail
      go_ret
      exact ⟨by rw [HE.out]; rfl, HB0.out⟩
    · have c2' : ¬ m.f0 > 4 := c2
      have N1 := rname_calls m.f1 h1 (w.alloc (.cells #[.int .i64 m.f0, .string m.f1, .string m.f2, .slice A m.f3.length c] 84))
      cases hn : nameB m.f1
      · have HE := Lib.hid (check_bad (m := m) (Or.inl (by rw [badM, hn]; rfl)))
        rw [hn] at N1
        have N1 := Lib.hid N1
        go_wp2_with fail
        refine N1.out.mono ?_
        rintro e w1 ⟨rfl, hb1⟩
        go_wp2_with fail
        go_ret
        exact ⟨by rw [HE.out]; rfl, HB0.out.trans (hb1.mono HB0.out.size)⟩
      · rw [hn] at N1
        have N1 := Lib.hid N1
        have HN := Lib.hid hn
        clear hn
        go_wp2_with fail
        refine N1.out.mono ?_
        clear N1 hc0 hc1
        rintro e w1 ⟨rfl, hb1⟩
        have HX1 := Lib.hid ((hb1.block w.heap.size (Array.getElem?_eq_some_iff.1 HX0.out).1).trans HX0.out)
        have HB1 := Lib.hid (HB0.out.trans (hb1.mono HB0.out.size))
        have HC1 := Lib.hid (Kd.C_below HC.out hb1)
        have hc2 := cell_at HX1.out 2
        clear hb1 HX0 HB0 HC
        have V1 := rval_calls m.f2 w1
        cases hv : valB m.f2
        · have HE := Lib.hid (check_bad (m := m) (Or.inl (by rw [badM, HN.out, hv]; rfl)))
          rw [hv] at V1
          have V1 := Lib.hid V1
          go_wp2_with fail
          refine V1.out.mono ?_
          rintro e w2 ⟨rfl, hb2⟩
          go_wp2_with fail
          go_ret
          exact ⟨by rw [HE.out]; rfl, HB1.out.trans (hb2.mono HB1.out.size)⟩
        · rw [hv] at V1
          have V1 := Lib.hid V1
          have HV := Lib.hid hv
          clear hv
          go_wp2_with fail
          refine V1.out.mono ?_
          clear V1 hc2
          rintro e w2 ⟨rfl, hb2⟩
          have HX2 := Lib.hid ((hb2.block w.heap.size (Array.getElem?_eq_some_iff.1 HX1.out).1).trans HX1.out)
          have HB2 := Lib.hid (HB1.out.trans (hb2.mono HB1.out.size))
          have HC2 := Lib.hid (Kd.C_below HC1.out hb2)
          have hc2 := cell_at HX2.out 2
          have hc3 := cell_at HX2.out 3
          clear hb2 HX1 HB1 HC1
          have hbad : badM m = ((m.f0 == 4 && m.f2.size != 0) || ((m.f0 == 4) != decide (0 < m.f3.length)) || decide (64 < m.f3.length) || m.f3.any (fun x => !valB x)) := by
            rw [badM, HN.out, HV.out]; rfl
          have HBAD := Lib.hid hbad
          have HG := Lib.hid (And.intro c1 c2)
          obtain ⟨q, hq1, hq2, hq3, hq4⟩ : ∃ q : Bool, (m.f2.size != 0) = q ∧ (m.f2.toList != []) = q ∧ (q = false → (m.f2.toList == []) = true) ∧ (q = true → (m.f2.toList == []) = false) := by
            refine ⟨_, rfl, notEmpty_beq m.f2, fun h => isEmpty_yes _ ?_, fun h => isEmpty_no _ ?_⟩
            · simpa using h
            · simpa using h
          rw [hq1] at HBAD
          generalize hf : (m.f0 == 4) = f at *
          by_cases h0 : 0 < m.f3.length
          · by_cases h6 : 64 < m.f3.length
            · have HE := Lib.hid (check_bad (m := m) (Or.inl (by rw [HBAD.out, decide_eq_true h6]; simp)))
              have h0' : ((m.f3.length : Nat) : Int) > 0 := by omega
              have h6' : ((m.f3.length : Nat) : Int) > 64 := by omega
              cases f
              · go_wp2_with fail
                go_ret
                exact ⟨by rw [HE.out]; rfl, HB2.out⟩
              · cases q
                all_goals
                  first | have hz := hq3 rfl | have hz := hq4 rfl
                  go_wp2_with fail
                  go_ret
                  exact ⟨by rw [HE.out]; rfl, HB2.out⟩
            · have h0' : ((m.f3.length : Nat) : Int) > 0 := by omega
              have h6' : ¬ ((m.f3.length : Nat) : Int) > 64 := by omega
              cases f
              · have HE := Lib.hid (check_bad (m := m) (Or.inl (by rw [HBAD.out, decide_eq_true h0]; simp)))
                go_wp2_with fail
                go_ret
                exact ⟨by rw [HE.out]; rfl, HB2.out⟩
              · cases q
                rotate_left
                · have HE := Lib.hid (check_bad (m := m) (Or.inl (by rw [HBAD.out]; simp)))
                  have hz := hq4 rfl
                  go_wp2_with fail
                  go_ret
                  exact ⟨by rw [HE.out]; rfl, HB2.out⟩
                have hz := hq3 rfl
                have HA := Lib.hid (show badM m = m.f3.any (fun x => !valB x) by rw [HBAD.out]; rw [decide_eq_true h0, decide_eq_false h6]; rfl)
                go_wp2_with fail
                go_loopw [4] (fun v wr => ∃ k : Nat, v = .int .i64 k ∧ k ≤ m.f3.length ∧ Hid ((m.f3.take k).any (fun x => !valB x) = false) ∧ Below w2.heap.size w2 wr) (fun v _ => m.f3.length - (intOf v).toNat)
                case atStart => exact ⟨0, rfl, by omega, Lib.hid rfl, Below.refl _ _⟩
                case round =>
                  obtain ⟨k, rfl, hk, hA, hbr⟩ := hrel
                  have hXr := (hbr.block w.heap.size (Array.getElem?_eq_some_iff.1 HX2.out).1).trans HX2.out
                  have hr3 := cell_at hXr 3
                  by_cases hlt : k < m.f3.length
                  · obtain ⟨ad, eA, hy⟩ := at_S HC2.out k hlt
                    subst eA
                    have hyr := pw_cell_below hbr hy
                    have W1 := rval_calls m.f3[k] wr
                    have HT := Lib.hid (show (m.f3.take (k + 1)).any (fun x => !valB x) = ((m.f3.take k).any (fun x => !valB x) || !valB m.f3[k]) by rw [List.take_succ_eq_append_getElem hlt, List.any_append]; simp)
                    cases hw : valB m.f3[k]
                    · have HE := Lib.hid (check_bad (m := m) (Or.inl (by
                        rw [HA.out, List.any_eq_true]
                        exact ⟨m.f3[k], List.getElem_mem hlt, by rw [hw]; rfl⟩)))
                      rw [hw] at W1
                      have W1 := Lib.hid W1
                      clear hw HT
                      go_wp2_with fail
                      refine W1.out.mono ?_
                      rintro e w3 ⟨rfl, hb3⟩
                      go_wp2_with fail
                      go_ret
                      have hbq := HB2.out.trans (hbr.mono HB2.out.size)
                      exact ⟨by rw [HE.out]; rfl, hbq.trans (hb3.mono hbq.size)⟩
                    · rw [hw] at W1
                      have W1 := Lib.hid W1
                      have HT2 := Lib.hid (show (m.f3.take (k + 1)).any (fun x => !valB x) = false by have h := HT.out; rw [hA.out, hw] at h; exact h)
                      clear hw HT
                      go_wp2_with fail
                      refine W1.out.mono ?_
                      rintro e w3 ⟨rfl, hb3⟩
                      go_wp2_with fail
                      go_roundw
                      case rel => exact ⟨k + 1, by go_num, by omega, HT2, hbr.trans (hb3.mono hbr.size)⟩
                      case measure => simp [intOf]; omega
                  · have HE := Lib.hid (check_good (m := m) (by
                      rw [HA.out]; have ha := hA.out; rwa [List.take_of_length_le (by omega)] at ha) (by have := HG.out.1; omega) (by have := HG.out.2; omega))
                    go_wp2_with fail
                    go_ret
                    exact ⟨by rw [HE.out]; rfl, HB2.out.trans (hbr.mono HB2.out.size)⟩
          · have h0' : ¬ ((m.f3.length : Nat) : Int) > 0 := by omega
            have h6' : ¬ ((m.f3.length : Nat) : Int) > 64 := by omega
            cases f
            rotate_left
            · have HE := Lib.hid (check_bad (m := m) (Or.inl (by rw [HBAD.out, decide_eq_false h0]; simp)))
              cases q
              all_goals
                first | have hz := hq3 rfl | have hz := hq4 rfl
                go_wp2_with fail
                go_ret
                exact ⟨by rw [HE.out]; rfl, HB2.out⟩
            have HA := Lib.hid (show badM m = m.f3.any (fun x => !valB x) by rw [HBAD.out]; rw [decide_eq_false h0, decide_eq_false (show ¬ 64 < m.f3.length by omega)]; rfl)
            go_wp2_with fail
            go_loopw [4] (fun v wr => ∃ k : Nat, v = .int .i64 k ∧ k ≤ m.f3.length ∧ Hid ((m.f3.take k).any (fun x => !valB x) = false) ∧ Below w2.heap.size w2 wr) (fun v _ => m.f3.length - (intOf v).toNat)
            case atStart => exact ⟨0, rfl, by omega, Lib.hid rfl, Below.refl _ _⟩
            case round =>
              obtain ⟨k, rfl, hk, hA, hbr⟩ := hrel
              have hXr := (hbr.block w.heap.size (Array.getElem?_eq_some_iff.1 HX2.out).1).trans HX2.out
              have hr3 := cell_at hXr 3
              have hlt : ¬ k < m.f3.length := by omega
              · have HE := Lib.hid (check_good (m := m) (by
                  rw [HA.out]; have ha := hA.out; rwa [List.take_of_length_le (by omega)] at ha) (by have := HG.out.1; omega) (by have := HG.out.2; omega))
                go_wp2_with fail
                go_ret
                exact ⟨by rw [HE.out]; rfl, HB2.out.trans (hbr.mono HB2.out.size)⟩
end
section
open Go.RowKit Go.Proofs.YtkanfffbdegfoaaGreatDoorW.PrintWords Go.Proofs.YtkanfffbdegfoaaGreatDoorW.PrintLast Go.Proofs.YtkanfffbdegfoaaGreatDoorW.PrintMore

theorem getL_cons (x : S130) (r : List S130) (nm : ByteArray) : getL (x :: r) nm = if (x.f0.toList == nm.toList) = true then x.f1 else getL r nm := by
  rw [getL, List.find?_cons]
  cases h : (x.f0.toList == nm.toList)
  · rfl
  · rfl
set_option maxHeartbeats 2000000 in
set_option maxRecDepth 100000 in
theorem refGet_calls (A : Option Addr) (c : Nat) (l : List S130) (nm : ByteArray) (w : World) (hr : Kd.C k130 w A l.length l) (hl : l.length ≤ 100000) :
    Calls Tryz.prog 81 #[.slice A l.length c, .string nm] w fun e w' => e = .returned (.string (getL l nm)) ∧ Below w.heap.size w w' := by
  have HR := Lib.hid hr
  clear hr
  go_enter Tryz.func81, Tryz.ntmps81
  go_wp2_with fail
  go_loopw [5] (fun v wr => ∃ i : Nat, v = .int .i64 i ∧ i ≤ l.length ∧ Hid (getL l nm = getL (l.drop i) nm) ∧ Below w.heap.size w wr) (fun v _ => l.length - (intOf v).toNat)
  case atStart => exact ⟨0, rfl, by omega, Lib.hid rfl, Below.refl _ _⟩
  case round =>
    obtain ⟨i, rfl, hi, hg, hbr⟩ := hrel
    by_cases hlt : i < l.length
    · obtain ⟨ad, rfl, h0, h1⟩ := at_N HR.out i hlt
      have h0' := pw_cell_below hbr h0
      have h1' := pw_cell_below hbr h1
      clear h0 h1
      have hd := List.drop_eq_getElem_cons hlt
      generalize l[i] = x at *
      have HG := Lib.hid (hg.out.trans (by rw [hd, getL_cons]))
      clear hd hg
      cases hx : (x.f0.toList == nm.toList)
      · have HG2 := Lib.hid (HG.out.trans (by rw [hx, if_neg (by decide)]))
        clear HG
        go_wp2_with fail
        go_roundw
        case rel => exact ⟨i + 1, by go_num, by omega, HG2, hbr⟩
        case measure => simp [intOf]; omega
      · have HG2 := Lib.hid (HG.out.trans (by rw [hx, if_pos rfl]))
        clear HG
        go_wp2_with fail
        go_ret
        exact ⟨by rw [HG2.out]; rfl, hbr⟩
    · have HG2 := Lib.hid (show getL l nm = ⟨#[]⟩ by rw [hg.out, List.drop_eq_nil_of_le (by omega)]; rfl)
      go_wp2_with fail
      go_ret
      exact ⟨by rw [HG2.out]; rfl, hbr⟩
theorem cut_str (v : ByteArray) (n : Nat) (h : n ≤ v.size) (W : World) : (Instr.slice 9 (.string v) none (some (.int .i64 (n : Int))) none).run Tryz.prog W = .ok (.string (v.extract 0 n)) W := by
  have := run_slice_string_h (P := Tryz.prog) W 9 v Tryz.underlying9 .i64 (n : Int) (by omega) (by omega)
  simpa using this
theorem cut_prefix (v p : ByteArray) (h : p.size ≤ v.size) : ((v.extract 0 p.size).toList == p.toList) = Lib.hasPrefix v.data.toList p.data.toList := by
  rw [nm_beq']
  have e : (v.extract 0 p.size).data.toList = v.data.toList.take p.size := by
    have := extract_list v 0 p.size (by omega)
    rw [Nat.zero_add, List.drop_zero] at this
    exact this
  rw [e]
  unfold Lib.hasPrefix
  cases hp : List.isPrefixOf p.data.toList v.data.toList
  · refine decide_eq_false (fun he => ?_)
    have : List.isPrefixOf p.data.toList v.data.toList = true := by
      rw [List.isPrefixOf_iff_prefix, ← he]
      exact List.take_prefix _ _
    rw [hp] at this
    cases this
  · refine decide_eq_true ?_
    have := List.isPrefixOf_iff_prefix.1 hp
    have h2 := List.prefix_iff_eq_take.1 this
    rw [data_length] at h2
    exact h2.symm
theorem no_prefix (v p : ByteArray) (h : ¬ p.size ≤ v.size) : Lib.hasPrefix v.data.toList p.data.toList = false := by
  unfold Lib.hasPrefix
  cases hp : List.isPrefixOf p.data.toList v.data.toList
  · rfl
  · have := (List.isPrefixOf_iff_prefix.1 hp).length_le
    rw [data_length, data_length] at this
    omega
set_option maxHeartbeats 8000000 in
set_option maxRecDepth 100000 in
theorem refMatch_calls (m : S84) (A : Option Addr) (c : Nat) (A1 : Option Addr) (c1 : Nat) (l : List S130) (w : World) (hC : Kd.C Kd.string w A m.f3.length m.f3) (h1 : m.f1.size ≤ 100000) (hl3 : m.f3.length ≤ 100000) (hr : Kd.C k130 w A1 l.length l) (hl : l.length ≤ 100000) :
    Calls Tryz.prog 37 #[.agg #[.int .i64 m.f0, .string m.f1, .string m.f2, .slice A m.f3.length c], .slice A1 l.length c1] w fun e w' => e = .returned (.bool (matchV m l)) ∧ Below w.heap.size w w' := by
  have hx0 := heap_alloc_new w (.cells #[.int .i64 m.f0, .string m.f1, .string m.f2, .slice A m.f3.length c] 84)
  have hb0 := (Below.refl w.heap.size w).alloc (Nat.le_refl _) (.cells #[.int .i64 m.f0, .string m.f1, .string m.f2, .slice A m.f3.length c] 84)
  have HX0 := Lib.hid hx0
  have HB0 := Lib.hid hb0
  have HC := Lib.hid (Kd.C_below hC hb0)
  have HR := Lib.hid (Kd.C_below hr hb0)
  have hc0 := cell_at hx0 0
  have hc1 := cell_at hx0 1
  have hc2 := cell_at hx0 2
  have hc3 := cell_at hx0 3
  have K1 := refCheck_calls m A c (w.alloc (.cells #[.int .i64 m.f0, .string m.f1, .string m.f2, .slice A m.f3.length c] 84)) HC.out h1 hl3
  clear hx0 hb0 hC hr
  by_cases hk : checkV m = 0
  · rw [hk] at K1
    have HM := Lib.hid (show matchV m l = takesV m (getL l m.f1) by rw [matchV, hk]; rfl)
    have hkind : 1 ≤ m.f0 ∧ m.f0 ≤ 4 := by
      unfold checkV at hk
      split at hk
      · rename_i h; exact h.2
      · exact absurd hk (by decide)
    have K1 := Lib.hid K1
    clear hk
    go_enter Tryz.func37, Tryz.ntmps37
    go_wp2_with fail
    refine K1.out.mono ?_
    clear K1 hc0 hc1 hc2 hc3
    rintro e w1 ⟨rfl, hb1⟩
    have HX1 := Lib.hid ((hb1.block w.heap.size (Array.getElem?_eq_some_iff.1 HX0.out).1).trans HX0.out)
    have HB1 := Lib.hid (HB0.out.trans (hb1.mono HB0.out.size))
    have HC1 := Lib.hid (Kd.C_below HC.out hb1)
    have HR1 := Lib.hid (Kd.C_below HR.out hb1)
    have hc1 := cell_at HX1.out 1
    clear hb1 HX0 HB0 HC HR
    have G1 := Lib.hid (refGet_calls A1 c1 l m.f1 w1 HR1.out hl)
    go_wp2_with fail
    refine G1.out.mono ?_
    clear G1 hc1 HR1
    rintro e w2 ⟨rfl, hb2⟩
    have HX2 := Lib.hid ((hb2.block w.heap.size (Array.getElem?_eq_some_iff.1 HX1.out).1).trans HX1.out)
    have HB2 := Lib.hid (HB1.out.trans (hb2.mono HB1.out.size))
    have HC2 := Lib.hid (Kd.C_below HC1.out hb2)
    clear hb2 HX1 HB1 HC1
    generalize hgv : getL l m.f1 = gv at *
    have hc0 := cell_at HX2.out 0
    have hc2 := cell_at HX2.out 2
    clear hgv
    obtain ⟨f0, nm, vl, ws⟩ := m
    simp only at *
    have hcase : f0 = 1 ∨ f0 = 2 ∨ f0 = 3 ∨ f0 = 4 := by omega
    clear hkind
    rcases hcase with rfl | rfl | rfl | rfl
    · go_wp2_with fail
      go_ret
      exact ⟨by rw [HM.out]; rfl, HB2.out⟩
    · go_wp2_with fail
      go_ret
      exact ⟨by rw [HM.out]; rfl, HB2.out⟩
    · go_upto_region 10 with (fail)
      have y2 := fun (p : BelowAt w2.heap.size w2) => pw_cell_below p.h hc2
      clear hc0 hc2
      by_cases hlen : vl.size ≤ gv.size
      · have hd : decide ((gv.size : Int) ≥ (vl.size : Int)) = true := decide_eq_true (by omega)
        have hd1 : decide ((vl.size : Int) ≤ (gv.size : Int)) = true := decide_eq_true (by omega)
        have hd2 : decide (vl.size ≤ gv.size) = true := decide_eq_true hlen
        have hs := cut_str gv vl.size hlen
        have HM2 := Lib.hid (HM.out.trans (cut_prefix gv vl hlen).symm)
        generalize gv.extract 0 vl.size = gx at *
        clear hlen
        refine wp_region_quiet_below w2.heap.size w2 (by kernel_rfl) (by kernel_rfl) (Below.refl _ _) ?_
        repeat go_big_quiet_step (fail)
        refine wpQuiet_nil ?_
        rintro wq ⟨⟨wq', hbq⟩, hw⟩
        replace hw : wq = wq' := hw
        subst hw
        clear y2
        go_wp2_with fail
        go_ret
        exact ⟨by rw [HM2.out]; rfl, HB2.out.trans (hbq.mono HB2.out.size)⟩
      · have hd : decide ((gv.size : Int) ≥ (vl.size : Int)) = false := decide_eq_false (by omega)
        have hd1 : decide ((vl.size : Int) ≤ (gv.size : Int)) = false := decide_eq_false (by omega)
        have hd2 : decide (vl.size ≤ gv.size) = false := decide_eq_false hlen
        have HM2 := Lib.hid (HM.out.trans (no_prefix gv vl hlen))
        clear hlen
        refine wp_region_quiet_below w2.heap.size w2 (by kernel_rfl) (by kernel_rfl) (Below.refl _ _) ?_
        repeat go_big_quiet_step (fail)
        refine wpQuiet_nil ?_
        rintro wq ⟨⟨wq', hbq⟩, hw⟩
        replace hw : wq = wq' := hw
        subst hw
        clear y2
        go_wp2_with fail
        go_ret
        exact ⟨by rw [HM2.out]; rfl, HB2.out.trans (hbq.mono HB2.out.size)⟩
    · go_wp2_with fail
      go_loopw [6] (fun v wr => ∃ k : Nat, v = .int .i64 k ∧ k ≤ ws.length ∧ Hid ((ws.take k).any (fun x => gv.toList == x.toList) = false) ∧ Below w2.heap.size w2 wr) (fun v _ => ws.length - (intOf v).toNat)
      case atStart => exact ⟨0, rfl, by omega, Lib.hid rfl, Below.refl _ _⟩
      case round =>
        obtain ⟨k, rfl, hk, hA, hbr⟩ := hrel
        have hXr := (hbr.block w.heap.size (Array.getElem?_eq_some_iff.1 HX2.out).1).trans HX2.out
        have hr3 := cell_at hXr 3
        by_cases hlt : k < ws.length
        · obtain ⟨ad, eA, hy⟩ := at_S HC2.out k hlt
          subst eA
          have hyr := pw_cell_below hbr hy
          have hmem := List.getElem_mem hlt
          have HT := Lib.hid (show (ws.take (k + 1)).any (fun x => gv.toList == x.toList) = ((ws.take k).any (fun x => gv.toList == x.toList) || (gv.toList == ws[k].toList)) by rw [List.take_succ_eq_append_getElem hlt, List.any_append]; simp)
          generalize ws[k] = wd at *
          cases hx : (gv.toList == wd.toList)
          · have HT2 := Lib.hid (show (ws.take (k + 1)).any (fun x => gv.toList == x.toList) = false by have h := HT.out; rw [hA.out, hx] at h; exact h)
            clear HT
            go_wp2_with fail
            go_roundw
            case rel => exact ⟨k + 1, by go_num, by omega, HT2, hbr⟩
            case measure => simp [intOf]; omega
          · have HM2 := Lib.hid (HM.out.trans (show takesV ⟨4, nm, vl, ws⟩ gv = true from List.any_eq_true.2 ⟨wd, hmem, hx⟩))
            clear HT hmem
            go_wp2_with fail
            go_ret
            exact ⟨by rw [HM2.out]; rfl, HB2.out.trans (hbr.mono HB2.out.size)⟩
        · have HM2 := Lib.hid (HM.out.trans (show takesV ⟨4, nm, vl, ws⟩ gv = false by have ha := hA.out; rw [List.take_of_length_le (by omega)] at ha; exact ha))
          go_wp2_with fail
          go_ret
          exact ⟨by rw [HM2.out]; rfl, HB2.out.trans (hbr.mono HB2.out.size)⟩
  · have HM := Lib.hid (show matchV m l = false by rw [matchV, beq_false_of_ne hk]; rfl)
    generalize checkV m = e1 at *
    have he1 : (e1 != 0) = true := bne_iff_ne.2 hk
    have K1 := Lib.hid K1
    clear hk
    go_enter Tryz.func37, Tryz.ntmps37
    go_wp2_with fail
    refine K1.out.mono ?_
    rintro e w1 ⟨rfl, hb1⟩
    go_wp2_with fail
    go_ret
    exact ⟨by rw [HM.out]; rfl, HB0.out.trans (hb1.mono HB0.out.size)⟩
end
section
open Go.RowKit Go.Proofs.YtkanfffbdegfoaaGreatDoorW.PrintWords Go.Proofs.YtkanfffbdegfoaaGreatDoorW.PrintLast Go.Proofs.YtkanfffbdegfoaaGreatDoorW.PrintMore

theorem at_M {w : World} {A : Option Addr} {xs : List S84} (h : Kd.C k84 w A xs.length xs) (k : Nat) (hk : k < xs.length) : ∃ ad A3 c3, A = some ad ∧ w.cell? (ad.add (k * 4)) = some (.int .i64 xs[k].f0) ∧ w.cell? ⟨(ad.add (k * 4)).block, (ad.add (k * 4)).off + 1, none⟩ = some (.string xs[k].f1) ∧ w.cell? ⟨(ad.add (k * 4)).block, (ad.add (k * 4)).off + 2, none⟩ = some (.string xs[k].f2) ∧ w.cell? ⟨(ad.add (k * 4)).block, (ad.add (k * 4)).off + 3, none⟩ = some (.slice A3 xs[k].f3.length c3) ∧ xs[k].f3.length ≤ c3 ∧ Kd.C Kd.string w A3 xs[k].f3.length xs[k].f3 := by
  obtain ⟨ad, A3, c3, e, h0, h1, h2, h3, hl, hC⟩ := at_T84 h (k : Int) (by omega) (by omega)
  have hx : rd_T84 xs (k : Int) = xs[k] := by simp [rd_T84, List.getD_eq_getElem?_getD, List.getElem?_eq_getElem hk]
  rw [hx] at h0 h1 h2 h3 hl hC
  rw [Int.toNat_natCast] at h0 h1 h2 h3
  exact ⟨ad, A3, c3, e, h0, h1, h2, h3, hl, hC⟩
/-- Where the first that is taken stands, from a place on; -1: none is. -/
def idxM (p : S84 → Bool) : List S84 → Nat → Int
  | [], _ => -1
  | x :: l, k => if p x then k else idxM p l (k + 1)
theorem idxM_any (p : S84 → Bool) (l : List S84) : ∀ k : Nat, decide (0 ≤ idxM p l k) = l.any p := by
  induction l with
  | nil => intro k; simp [idxM]
  | cons x l ih =>
    intro k
    rw [idxM, List.any_cons]
    cases h : p x
    · simpa using ih (k + 1)
    · simp
theorem idxM_ge (p : S84 → Bool) (l : List S84) : ∀ k : Nat, -1 ≤ idxM p l k := by
  induction l with
  | nil => intro k; simp [idxM]
  | cons x l ih =>
    intro k
    rw [idxM]
    split
    · omega
    · exact ih _
set_option maxHeartbeats 2000000 in
set_option maxRecDepth 100000 in
theorem indexM_calls (g : Nat) (cb : Array Value) (p : S84 → Bool) (A0 : Option Addr) (c0 : Nat) (l0 : List S84) (w : World) (hr0 : Kd.C k84 w A0 l0.length l0) (hlen : l0.length ≤ 100000)
    (he : ∀ (args : Array Value) (w : World), (callFunc g args).run Tryz.prog w = .ok (.enter g args) w)
    (hp : ∀ (x : S84) (A : Option Addr) (c : Nat) (W : World), x ∈ l0 → Below w.heap.size w W → Kd.C Kd.string W A x.f3.length x.f3 → Calls Tryz.prog g (#[.agg #[.int .i64 x.f0, .string x.f1, .string x.f2, .slice A x.f3.length c]] ++ cb) W fun e w' => e = .returned (.bool (p x)) ∧ Below W.heap.size W w') :
    Calls Tryz.prog 150 #[.slice A0 l0.length c0, .func (.func g) #[] cb] w fun e w' => e = .returned (.int .i64 (idxM p l0 0)) ∧ Below w.heap.size w w' := by
  have HP := Lib.hid hp
  have HR := Lib.hid hr0
  clear hp hr0
  go_enter Tryz.func150, Tryz.ntmps150
  go_wp2_with fail
  go_loopw [8] (fun v wr => ∃ k : Nat, v = .int .i64 k ∧ k ≤ l0.length ∧ Hid (idxM p l0 0 = idxM p (l0.drop k) k) ∧ Below w.heap.size w wr) (fun v _ => l0.length - (intOf v).toNat)
  case atStart => exact ⟨0, rfl, by omega, Lib.hid rfl, Below.refl _ _⟩
  case round =>
    obtain ⟨k, rfl, hk, hi, hbw⟩ := hrel
    by_cases hlt : k < l0.length
    · obtain ⟨ad, A3, c3, rfl, h0, h1, h2, h3, hl3, hC3⟩ := at_M HR.out k hlt
      have h0' := pw_cell_below hbw h0
      have h1' := pw_cell_below hbw h1
      have h2' := pw_cell_below hbw h2
      have h3' := pw_cell_below hbw h3
      have HQ := Lib.hid (HP.out l0[k] A3 c3 wr (List.getElem_mem hlt) hbw (Kd.C_below hC3 hbw))
      clear h0 h1 h2 h3 hC3
      go_wp2_with fail
      refine HQ.out.mono ?_
      rintro e w1 ⟨rfl, hb1⟩
      have hbw1 := hbw.trans (hb1.mono hbw.size)
      have hdrop : l0.drop k = l0[k] :: l0.drop (k + 1) := List.drop_eq_getElem_cons hlt
      cases hpk : p l0[k]
      · have HK := Lib.hid hpk
        have HDR := Lib.hid hdrop
        clear hpk hdrop
        go_wp2
        go_roundw
        case rel =>
          refine ⟨k + 1, by go_num, by omega, ?_, hbw1⟩
          rw [hi.out, HDR.out, idxM, HK.out]
          exact Lib.hid rfl
        case measure => simp [intOf]; omega
      · have HK := Lib.hid hpk
        have HDR := Lib.hid hdrop
        clear hpk hdrop
        go_wp2
        go_ret
        refine ⟨?_, hbw1⟩
        rw [hi.out, HDR.out, idxM, HK.out]
        rfl
    · go_wp2
      go_ret
      refine ⟨?_, hbw⟩
      rw [hi.out, List.drop_eq_nil_of_le (by omega)]
      rfl
set_option maxHeartbeats 1000000 in
set_option maxRecDepth 100000 in
theorem containsM_calls (g : Nat) (cb : Array Value) (p : S84 → Bool) (A0 : Option Addr) (c0 : Nat) (l0 : List S84) (w : World) (hr0 : Kd.C k84 w A0 l0.length l0) (hlen : l0.length ≤ 100000)
    (he : ∀ (args : Array Value) (w : World), (callFunc g args).run Tryz.prog w = .ok (.enter g args) w)
    (hp : ∀ (x : S84) (A : Option Addr) (c : Nat) (W : World), x ∈ l0 → Below w.heap.size w W → Kd.C Kd.string W A x.f3.length x.f3 → Calls Tryz.prog g (#[.agg #[.int .i64 x.f0, .string x.f1, .string x.f2, .slice A x.f3.length c]] ++ cb) W fun e w' => e = .returned (.bool (p x)) ∧ Below W.heap.size W w') :
    Calls Tryz.prog 89 #[.slice A0 l0.length c0, .func (.func g) #[] cb] w fun e w' => e = .returned (.bool (l0.any p)) ∧ Below w.heap.size w w' := by
  have C := Lib.hid (indexM_calls g cb p A0 c0 l0 w hr0 hlen he hp)
  rw [← idxM_any p l0 0]
  clear hp hr0 he
  revert C
  generalize idxM p l0 0 = k
  intro C
  go_enter Tryz.func89, Tryz.ntmps89
  go_wp2_with fail
  refine C.out.mono ?_
  rintro e w1 ⟨rfl, hb1⟩
  go_wp2
  go_ret
  exact ⟨rfl, hb1⟩
set_option maxHeartbeats 1000000 in
set_option maxRecDepth 100000 in
/-- label.MatchAll's function literal: does a matcher not take the labels? -/
theorem all1_calls (m : S84) (A : Option Addr) (c : Nat) (b : Nat) (A1 : Option Addr) (c1 : Nat) (l : List S130) (w : World) (hC : Kd.C Kd.string w A m.f3.length m.f3) (hl3 : m.f3.length ≤ 100000) (hb : w.cell? ⟨b, 0, none⟩ = some (.slice A1 l.length c1)) (hr : Kd.C k130 w A1 l.length l) (hc1 : l.length ≤ c1) (hl : l.length ≤ 100000) :
    Calls Tryz.prog 90 #[.agg #[.int .i64 m.f0, .string m.f1, .string m.f2, .slice A m.f3.length c], .pointer (some ⟨b, 0, none⟩)] w fun e w' => e = .returned (.bool (!matchV m l)) ∧ Below w.heap.size w w' := by
  have hx0 := heap_alloc_new w (.cells #[.int .i64 m.f0, .string m.f1, .string m.f2, .slice A m.f3.length c] 84)
  have hb0 := (Below.refl w.heap.size w).alloc (Nat.le_refl _) (.cells #[.int .i64 m.f0, .string m.f1, .string m.f2, .slice A m.f3.length c] 84)
  have hc0 := cell_at hx0 0
  have hc1' := cell_at hx0 1
  have hc2 := cell_at hx0 2
  have hc3 := cell_at hx0 3
  have hb' := pw_cell_below hb0 hb
  have M1 := Lib.hid (match_calls m A c A1 c1 l (w.alloc (.cells #[.int .i64 m.f0, .string m.f1, .string m.f2, .slice A m.f3.length c] 84)) (Kd.C_below hC hb0) (by omega) (Kd.C_below hr hb0) hc1 (by omega))
  have HB0 := Lib.hid hb0
  clear hx0 hb0 hC hr hb
  go_enter Tryz.func90, Tryz.ntmps90
  go_wp2_with fail
  refine M1.out.mono ?_
  rintro e w1 ⟨rfl, hb1⟩
  go_wp2_with fail
  go_ret
  exact ⟨rfl, HB0.out.trans (hb1.mono HB0.out.size)⟩
theorem enter90 : ∀ (args : Array Value) (w : World), (callFunc 90 args).run Tryz.prog w = .ok (.enter 90 args) w := fun args w => by go_simp
/-- Do all take the labels? -/
def allV (M : List S84) (l : List S130) : Bool := !M.any (fun m => !matchV m l)
set_option maxHeartbeats 1000000 in
set_option maxRecDepth 100000 in
theorem matchAll_calls (A0 : Option Addr) (c0 : Nat) (M : List S84) (A1 : Option Addr) (c1 : Nat) (l : List S130) (w : World) (hM : Kd.C k84 w A0 M.length M) (hml : M.length ≤ 100000) (hm3 : ∀ m ∈ M, m.f3.length ≤ 100000) (hr : Kd.C k130 w A1 l.length l) (hc1 : l.length ≤ c1) (hl : l.length ≤ 100000) :
    Calls Tryz.prog 39 #[.slice A0 M.length c0, .slice A1 l.length c1] w fun e w' => e = .returned (.bool (allV M l)) ∧ Below w.heap.size w w' := by
  have hx0 := heap_alloc_new w (.cells #[.slice A1 l.length c1] 59)
  have hb0 := (Below.refl w.heap.size w).alloc (Nat.le_refl _) (.cells #[.slice A1 l.length c1] 59)
  have C := Lib.hid (containsM_calls 90 #[.pointer (some ⟨w.heap.size, 0, none⟩)] (fun m => !matchV m l) A0 c0 M (w.alloc (.cells #[.slice A1 l.length c1] 59)) (Kd.C_below hM hb0) hml enter90 (fun x A c W hx hW hC => all1_calls x A c w.heap.size A1 c1 l W hC (hm3 x hx) (pw_cell_below hW (cell_at hx0 0)) (Kd.C_below (Kd.C_below hr hb0) hW) hc1 hl))
  have HB0 := Lib.hid hb0
  clear hx0 hb0 hM hr
  go_enter Tryz.func39, Tryz.ntmps39
  go_wp2_with fail
  refine C.out.mono ?_
  rintro e w1 ⟨rfl, hb1⟩
  go_wp2_with fail
  go_ret
  exact ⟨rfl, HB0.out.trans (hb1.mono HB0.out.size)⟩
theorem allV_cons (m : S84) (M : List S84) (l : List S130) : allV (m :: M) l = (matchV m l && allV M l) := by
  unfold allV
  rw [List.any_cons]
  cases matchV m l <;> simp
set_option maxHeartbeats 2000000 in
set_option maxRecDepth 100000 in
theorem refAll_calls (A0 : Option Addr) (c0 : Nat) (M : List S84) (A1 : Option Addr) (c1 : Nat) (l : List S130) (w : World) (hM : Kd.C k84 w A0 M.length M) (hml : M.length ≤ 100000) (hm3 : ∀ m ∈ M, m.f1.size ≤ 100000 ∧ m.f3.length ≤ 100000) (hr : Kd.C k130 w A1 l.length l) (hl : l.length ≤ 100000) :
    Calls Tryz.prog 40 #[.slice A0 M.length c0, .slice A1 l.length c1] w fun e w' => e = .returned (.bool (allV M l)) ∧ Below w.heap.size w w' := by
  have HM := Lib.hid hM
  have HR := Lib.hid hr
  have H3 := Lib.hid hm3
  clear hM hr hm3
  go_enter Tryz.func40, Tryz.ntmps40
  go_wp2_with fail
  go_loopw [5] (fun v wr => ∃ k : Nat, v = .int .i64 k ∧ k ≤ M.length ∧ Hid (allV M l = allV (M.drop k) l) ∧ Below w.heap.size w wr) (fun v _ => M.length - (intOf v).toNat)
  case atStart => exact ⟨0, rfl, by omega, Lib.hid rfl, Below.refl _ _⟩
  case round =>
    obtain ⟨k, rfl, hk, hi, hbw⟩ := hrel
    by_cases hlt : k < M.length
    · obtain ⟨ad, A3, c3, rfl, h0, h1, h2, h3, hl3, hC3⟩ := at_M HM.out k hlt
      have h0' := pw_cell_below hbw h0
      have h1' := pw_cell_below hbw h1
      have h2' := pw_cell_below hbw h2
      have h3' := pw_cell_below hbw h3
      obtain ⟨b1, b2⟩ := H3.out _ (List.getElem_mem hlt)
      have Q := refMatch_calls M[k] A3 c3 A1 c1 l wr (Kd.C_below hC3 hbw) b1 b2 (Kd.C_below HR.out hbw) hl
      have HD := Lib.hid (hi.out.trans (by rw [List.drop_eq_getElem_cons hlt, allV_cons]))
      clear h0 h1 h2 h3 hC3 b1 b2
      cases hm : matchV M[k] l
      · rw [hm] at Q
        have HQ := Lib.hid Q
        have HD2 := Lib.hid (show allV M l = false by rw [HD.out, hm]; rfl)
        clear hm Q HD
        go_wp2_with fail
        refine HQ.out.mono ?_
        rintro e w1 ⟨rfl, hb1⟩
        go_wp2_with fail
        go_ret
        exact ⟨by rw [HD2.out]; rfl, hbw.trans (hb1.mono hbw.size)⟩
      · rw [hm] at Q
        have HQ := Lib.hid Q
        have HD2 := Lib.hid (show allV M l = allV (M.drop (k + 1)) l by rw [HD.out, hm]; rfl)
        clear hm Q HD
        go_wp2_with fail
        refine HQ.out.mono ?_
        rintro e w1 ⟨rfl, hb1⟩
        go_wp2_with fail
        go_roundw
        case rel => exact ⟨k + 1, by go_num, by omega, HD2, hbw.trans (hb1.mono hbw.size)⟩
        case measure => simp [intOf]; omega
    · have HD2 := Lib.hid (show allV M l = true by rw [hi.out, List.drop_eq_nil_of_le (by omega)]; rfl)
      go_wp2_with fail
      go_ret
      exact ⟨by rw [HD2.out]; rfl, hbw⟩
end
end Go.Proofs.YtkanfffbdegfoaaGreatDoor.PD
