/- The contracts of label.nibble and label.Unquote: what they tell, of every string. No condition but that the string takes at most 2^47 bytes (else '.f' tells nothing). -/
import Derived.Test.YtkanfffbdegfoaaGreatDoorKA
import Derived.Deep.RegionWith
import Derived.StillTailTactics
namespace Go.Proofs.YtkanfffbdegfoaaGreatDoor.PD
set_option linter.unusedVariables false
set_option linter.unusedSimpArgs false
open Go.RowKit Go.Proofs.YtkanfffbdegfoaaGreatDoorW.PrintWords Go.Proofs.YtkanfffbdegfoaaGreatDoorW.PrintLast Go.Proofs.YtkanfffbdegfoaaGreatDoorW.PrintMore

/-- A digit of base 16, as label.nibble tells it; 16: it is none. -/
def nibV (c : Nat) : Nat :=
  if 0 ≤ Lib.indexByte [48, 49, 50, 51, 52, 53, 54, 55, 56, 57, 97, 98, 99, 100, 101, 102] c.toUInt8 then (Lib.indexByte [48, 49, 50, 51, 52, 53, 54, 55, 56, 57, 97, 98, 99, 100, 101, 102] c.toUInt8).toNat
  else if 0 ≤ Lib.indexByte [65, 66, 67, 68, 69, 70] c.toUInt8 then 10 + (Lib.indexByte [65, 66, 67, 68, 69, 70] c.toUInt8).toNat
  else 16

theorem ret_int {k : IntKind} {a b : Int} (h : a = b) : Ending.returned (.int k a) = .returned (.int k b) := by rw [h]
theorem idx_lt (l : List UInt8) (c : UInt8) : Lib.indexByte l c < l.length := by
  induction l with
  | nil => simp [Lib.indexByte]
  | cons b l ih =>
    simp only [Lib.indexByte, List.length_cons]
    split
    · omega
    · split <;> omega
theorem nibV_le (c : Nat) : nibV c ≤ 16 := by
  unfold nibV
  have h1 := idx_lt [48, 49, 50, 51, 52, 53, 54, 55, 56, 57, 97, 98, 99, 100, 101, 102] c.toUInt8
  have h2 := idx_lt [65, 66, 67, 68, 69, 70] c.toUInt8
  simp only [List.length_cons, List.length_nil] at h1 h2
  split
  · omega
  · split <;> omega

set_option maxHeartbeats 1000000 in
theorem nibble_calls (c : Nat) (w : World) :
    Calls Tryz.prog 60 #[.int .u8 c] w fun e w' => e = .returned (.int .u8 (nibV c : Nat)) ∧ w' = w := by
  have hlt1 := idx_lt [48, 49, 50, 51, 52, 53, 54, 55, 56, 57, 97, 98, 99, 100, 101, 102] c.toUInt8
  have hlt2 := idx_lt [65, 66, 67, 68, 69, 70] c.toUInt8
  have hge1 := Lib.indexByte_ge [48, 49, 50, 51, 52, 53, 54, 55, 56, 57, 97, 98, 99, 100, 101, 102] c.toUInt8
  have hge2 := Lib.indexByte_ge [65, 66, 67, 68, 69, 70] c.toUInt8
  have hn : nibV c = if 0 ≤ Lib.indexByte [48, 49, 50, 51, 52, 53, 54, 55, 56, 57, 97, 98, 99, 100, 101, 102] c.toUInt8 then (Lib.indexByte [48, 49, 50, 51, 52, 53, 54, 55, 56, 57, 97, 98, 99, 100, 101, 102] c.toUInt8).toNat else if 0 ≤ Lib.indexByte [65, 66, 67, 68, 69, 70] c.toUInt8 then 10 + (Lib.indexByte [65, 66, 67, 68, 69, 70] c.toUInt8).toNat else 16 := rfl
  have C1 : ∀ W : World, Calls Tryz.prog 107 #[.string ⟨#[48, 49, 50, 51, 52, 53, 54, 55, 56, 57, 97, 98, 99, 100, 101, 102]⟩, .int .u8 c] W fun e w' => e = .returned (.int .i64 (Lib.indexByte [48, 49, 50, 51, 52, 53, 54, 55, 56, 57, 97, 98, 99, 100, 101, 102] c.toUInt8)) ∧ w' = W := fun W => Tryz.strings_IndexByte _ _ W
  have C2 : ∀ W : World, Calls Tryz.prog 107 #[.string ⟨#[65, 66, 67, 68, 69, 70]⟩, .int .u8 c] W fun e w' => e = .returned (.int .i64 (Lib.indexByte [65, 66, 67, 68, 69, 70] c.toUInt8)) ∧ w' = W := fun W => Tryz.strings_IndexByte _ _ W
  revert hlt1 hlt2 hge1 hge2 hn C1 C2
  generalize Lib.indexByte [48, 49, 50, 51, 52, 53, 54, 55, 56, 57, 97, 98, 99, 100, 101, 102] c.toUInt8 = k1
  generalize Lib.indexByte [65, 66, 67, 68, 69, 70] c.toUInt8 = k2
  generalize nibV c = r
  intro hlt1 hlt2 hge1 hge2 hn C1 C2
  simp only [List.length_cons, List.length_nil] at hlt1 hlt2
  have HN := Lib.hid hn
  have D1 := Lib.hid C1
  have D2 := Lib.hid C2
  clear hn C1 C2
  by_cases h1 : 0 ≤ k1
  · go_enter Tryz.func60, Tryz.ntmps60
    go_wp2_with fail
    refine (D1.out _).mono ?_
    rintro e w' ⟨rfl, rfl⟩
    go_wp2
    go_ret
    exact ⟨ret_int (by rw [HN.out, if_pos h1]; omega), rfl⟩
  · go_enter Tryz.func60, Tryz.ntmps60
    go_wp2_with fail
    refine (D1.out _).mono ?_
    rintro e w' ⟨rfl, rfl⟩
    go_wp2_with fail
    refine (D2.out _).mono ?_
    rintro e w' ⟨rfl, rfl⟩
    by_cases h2 : 0 ≤ k2
    · go_wp2
      go_ret
      exact ⟨ret_int (by rw [HN.out, if_neg (by omega), if_pos h2]; omega), rfl⟩
    · go_wp2
      go_ret
      exact ⟨ret_int (by rw [HN.out, if_neg (by omega), if_neg (by omega)]; rfl), rfl⟩
/-- What a quoted text's rest stands for, from a place on, behind what has been read; none: it is refused. -/
def unq (s : ByteArray) : Nat → Nat → List UInt8 → Option (List UInt8 × Nat)
  | 0, _, _ => none
  | b + 1, i, acc =>
    if h : i < s.size then
      if s[i].toNat = 34 then some (acc, i + 1)
      else if s[i].toNat < 32 ∨ s[i].toNat = 127 then none
      else if s[i].toNat ≠ 92 then unq s b (i + 1) (acc ++ [s[i]])
      else if h1 : i + 1 < s.size then
        if s[i + 1].toNat = 34 ∨ s[i + 1].toNat = 92 then unq s b (i + 2) (acc ++ [s[i + 1]])
        else if s[i + 1].toNat = 110 then unq s b (i + 2) (acc ++ [10])
        else if h3 : i + 3 < s.size then
          if s[i + 1].toNat = 120 ∧ nibV s[i + 2].toNat < 16 ∧ nibV s[i + 3].toNat < 16 then unq s b (i + 4) (acc ++ [(16 * nibV s[i + 2].toNat + nibV s[i + 3].toNat).toUInt8])
          else none
        else none
      else none
    else none
def unqAll (s : ByteArray) : ByteArray × Int × Int :=
  if Lib.hasPrefix s.data.toList [34] then
    match unq s (s.size + 5) 1 [] with
    | some (l, n) => (⟨l.toArray⟩, n, 0)
    | none => (⟨#[]⟩, 0, 134)
  else (⟨#[]⟩, 0, 134)
def label_Unquote.f (a0 : ByteArray) : Option (ByteArray × Int × Int) := if a0.size ≤ 140737488351232 then some (unqAll a0) else none

theorem isB_drew {T e B b : Nat} {bs : List Value} {w : World} (h : Lib.IsBuilder T e B b bs w) : Lib.IsBuilder T e B b bs w.drew := by
  rcases h with ⟨hB, v, hb, hown, hne⟩ | ⟨hB, v, hb, hown, hne⟩
  · exact Or.inl ⟨hB, v, hb, hown.drew, hne⟩
  · exact Or.inr ⟨hB, v, hb, hown.drew, hne⟩
theorem bits16' : ∀ a : Fin 16, ∀ b : Fin 16, Go.bits .or .u8 (IntKind.u8.wrap ((a.val : Int) * 16)) (b.val : Int) = ((16 * a.val + b.val).toUInt8.toNat : Int) := by decide
theorem bits16 (a b : Nat) (ha : a < 16) (hb : b < 16) : Go.bits .or .u8 (IntKind.u8.wrap ((a : Int) * 16)) (b : Int) = ((16 * a + b).toUInt8.toNat : Int) := bits16' ⟨a, ha⟩ ⟨b, hb⟩
theorem hp_one (s : ByteArray) (j : Nat) (c : UInt8) : Lib.hasPrefix (s.extract j s.size).data.toList [c] = if h : j < s.size then c == s[j] else false := by
  unfold Lib.hasPrefix
  split
  · rename_i h
    have h' : j < s.data.toList.length := by rw [data_length]; exact h
    have : (s.extract j s.size).data.toList = s[j] :: s.data.toList.drop (j + 1) := by
      have h1 : (s.extract j s.size).data.toList = s.data.toList.drop j := by
        rw [Lib.extract_data, List.take_of_length_le (by rw [List.length_drop, data_length]; omega)]
      rw [h1, List.drop_eq_getElem_cons h']
      rfl
    rw [this]
    show (c == s[j] && List.isPrefixOf [] _) = _
    simp
  · rename_i h
    have : (s.extract j s.size).data.toList = [] := by
      rw [Lib.extract_data, List.drop_eq_nil_of_le (by rw [data_length]; omega), List.take_nil]
    rw [this]
    rfl
theorem unq_done {s : ByteArray} {b i : Nat} {acc : List UInt8} (h : i < s.size) (h34 : s[i].toNat = 34) : unq s (b + 1) i acc = some (acc, i + 1) := by
  rw [unq, dif_pos h, if_pos h34]
theorem unq_low {s : ByteArray} {b i : Nat} {acc : List UInt8} (h : i < s.size) (h34 : s[i].toNat ≠ 34) (hl : s[i].toNat < 32 ∨ s[i].toNat = 127) : unq s (b + 1) i acc = none := by
  rw [unq, dif_pos h, if_neg h34, if_pos hl]
theorem unq_plain {s : ByteArray} {b i : Nat} {acc : List UInt8} (h : i < s.size) (h34 : s[i].toNat ≠ 34) (hl : ¬ (s[i].toNat < 32 ∨ s[i].toNat = 127)) (h92 : s[i].toNat ≠ 92) : unq s (b + 1) i acc = unq s b (i + 1) (acc ++ [s[i]]) := by
  rw [unq, dif_pos h, if_neg h34, if_neg hl, if_pos h92]
theorem unq_back {s : ByteArray} {b i : Nat} {acc : List UInt8} (h : i < s.size) (h92 : s[i].toNat = 92) : unq s (b + 1) i acc = if h1 : i + 1 < s.size then
        if s[i + 1].toNat = 34 ∨ s[i + 1].toNat = 92 then unq s b (i + 2) (acc ++ [s[i + 1]])
        else if s[i + 1].toNat = 110 then unq s b (i + 2) (acc ++ [10])
        else if h3 : i + 3 < s.size then
          if s[i + 1].toNat = 120 ∧ nibV s[i + 2].toNat < 16 ∧ nibV s[i + 3].toNat < 16 then unq s b (i + 4) (acc ++ [(16 * nibV s[i + 2].toNat + nibV s[i + 3].toNat).toUInt8])
          else none
        else none
      else none := by
  rw [unq, dif_pos h, if_neg (by omega), if_neg (by omega), if_neg (by omega)]
theorem unq_over {s : ByteArray} {b i : Nat} {acc : List UInt8} (h : ¬ i < s.size) : unq s b i acc = none := by
  cases b with
  | zero => rfl
  | succ b => rw [unq, dif_neg h]

set_option maxHeartbeats 40000000 in
set_option maxRecDepth 100000 in
theorem unquote_any (s : ByteArray) (w : World) (hs : s.size ≤ 140737488351232) :
    Calls Tryz.prog 10 #[.string s] w fun e w' => e = .returned (.tuple #[.string (unqAll s).1, .int .i64 (unqAll s).2.1, .int .i64 (unqAll s).2.2]) ∧ Below w.heap.size w w' := by
  cases hp : Lib.hasPrefix s.data.toList [34]
  · have hres : unqAll s = (⟨#[]⟩, 0, 134) := by simp [unqAll, hp]
    rw [hres]
    have HP := Lib.hid hp
    clear hp hres
    go_enter Tryz.func10, Tryz.ntmps10
    go_wp2_with fail
    refine (Tryz.strings_HasPrefix _ _ _).mono ?_
    rintro e w' ⟨rfl, rfl⟩
    rw [HP.out]
    go_wp2
    go_ret3
    exact ⟨rfl, Below.refl _ _⟩
  · have hres : unqAll s = (match unq s (s.size + 5) 1 [] with | some (l, n) => (⟨l.toArray⟩, (n : Int), 0) | none => (⟨#[]⟩, 0, 134)) := by simp [unqAll, hp]
    generalize hR : unqAll s = R at hres ⊢
    clear hR
    have HR := Lib.hid hres
    have HP := Lib.hid hp
    clear hp hres
    go_enter Tryz.func10, Tryz.ntmps10
    go_wp2_with fail
    refine (Tryz.strings_HasPrefix _ _ _).mono ?_
    rintro e w' ⟨rfl, rfl⟩
    rw [HP.out]
    go_wp2_with fail
    go_loopw [6] (fun v wr => ∃ (i b : Nat) (acc : List UInt8), v = .int .i64 i ∧ 1 ≤ i ∧ i ≤ s.size + 4 ∧ acc.length ≤ i ∧ s.size + 6 ≤ i + b ∧ Hid (unq s b i acc = unq s (s.size + 5) 1 []) ∧ Lib.IsBuilder 112 5 w'.heap.size w'.heap.size (Lib.byteCells acc) wr ∧ Below w'.heap.size w' wr) (fun v _ => s.size + 5 - (intOf v).toNat)
    case atStart =>
      refine ⟨1, s.size + 5, [], rfl, by omega, by omega, by simp, by omega, Lib.hid rfl, ?_, (Below.refl _ _).alloc (Nat.le_refl _) _⟩
      exact Or.inl ⟨Nat.le_refl _, .slice none 0 0, heap_alloc_new _ _, own_nil _ _ _ _, by simp [Value.ownBlock]⟩
    case round =>
      obtain ⟨i, b, acc, rfl, hi1, hi2, hacc, hib, hun, hbu, hbw⟩ := hrel
      have hsz : w'.heap.size ≤ wr.heap.size := hbw.size
      obtain ⟨b, rfl⟩ : ∃ m, b = m + 1 := ⟨b - 1, by omega⟩
      by_cases hlt : i < s.size
      · by_cases h34 : s[i].toNat = 34
        · have t1 : ((s[i].toNat : Int) == 34) = true := by simp [h34]
          have H34 := Lib.hid (unq_done (b := b) (acc := acc) hlt h34)
          clear h34
          go_wp2_with fail
          refine (Tryz.Builder_String_any _ _ acc _ hbu hsz).mono ?_
          rintro e w1 ⟨rfl, hb1⟩
          go_wp2
          go_ret3
          refine ⟨?_, hbw.trans hb1⟩
          rw [HR.out, ← hun.out, H34.out]
          simp
        · have t1 : ((s[i].toNat : Int) == 34) = false := by simp; omega
          have t1' : ((s[i].toNat : Int) != 34) = true := by simp; omega
          by_cases hl : s[i].toNat < 32 ∨ s[i].toNat = 127
          · have hd := Lib.hid (unq_low (b := b) (acc := acc) hlt h34 hl)
            have hcl := Lib.hid hl
            by_cases hl1 : (s[i].toNat : Int) < 32
            · clear hl h34
              go_wp2
              go_ret3
              refine ⟨?_, hbw⟩
              rw [HR.out, ← hun.out, hd.out]
              rfl
            · have hl2 : ((s[i].toNat : Int) == 127) = true := by simp; omega
              clear hl h34
              go_wp2
              go_ret3
              refine ⟨?_, hbw⟩
              rw [HR.out, ← hun.out, hd.out]
              rfl
          · have hl1 : ¬ (s[i].toNat : Int) < 32 := by omega
            have hl2 : ((s[i].toNat : Int) == 127) = false := by simp; omega
            by_cases h92 : s[i].toNat = 92
            · have t3 : ((s[i].toNat : Int) != 92) = false := by simp [h92]
              have hmin : min ((i : Int) + 1) (s.size : Int) = (i : Int) + 1 := by omega
              have HB := Lib.hid (unq_back (b := b) (acc := acc) hlt h92)
              clear h34 hl h92
              have hp34 := hp_one s (i + 1) 34
              have hp92 := hp_one s (i + 1) 92
              have hp110 := hp_one s (i + 1) 110
              by_cases h1 : i + 1 < s.size
              · rw [dif_pos h1] at hp34 hp92 hp110
                have hR0 : 0 < (s.extract (i + 1) s.size).size := by simp; omega
                have hd := HB.out
                rw [dif_pos h1] at hd
                have hx0 : (s.extract (i + 1) s.size)[0] = s[i + 1] := by simp [ByteArray.getElem_extract]
                have HX0 := Lib.hid hx0
                clear hx0
                by_cases c34 : s[i + 1].toNat = 34 ∨ s[i + 1].toNat = 92
                · rw [if_pos c34] at hd
                  have HD := Lib.hid hd
                  have P34 := Lib.hid hp34
                  have P92 := Lib.hid hp92
                  have C34 := Lib.hid c34
                  clear hp34 hp92 hp110 hd c34
                  go_wp2_with fail
                  refine (Tryz.strings_HasPrefix _ _ _).mono ?_
                  rintro e w1 ⟨rfl, h1w⟩
                  subst h1w
                  rw [P34.out]
                  cases hq : ((34 : UInt8) == s[i + 1])
                  · have HQ := Lib.hid hq
                    clear hq
                    go_wp2_with fail
                    refine (Tryz.strings_HasPrefix _ _ _).mono ?_
                    rintro e w1 ⟨rfl, h1w⟩
                    subst h1w
                    rw [P92.out]
                    have hq2 : ((92 : UInt8) == s[i + 1]) = true := by
                      rcases C34.out with h | h
                      · have := HQ.out
                        simp at this
                        exact absurd (UInt8.toNat_inj.1 (by rw [h]; rfl)) this
                      · simp
                        exact UInt8.toNat_inj.1 (by rw [h]; rfl)
                    rw [hq2]
                    clear hq2
                    go_wp2_with fail
                    refine (WriteByte_calls _ _ _ _ _ hbu (by rw [Lib.byteCells_length]; omega) hsz).mono ?_
                    rintro e w2 ⟨rfl, hbu1, hb1⟩
                    go_wp2
                    go_roundw
                    case rel =>
                      refine ⟨i + 2, b, acc ++ [s[i + 1]], by go_num, by omega, by omega, by simp; omega, by omega, ?_, ?_, hbw.trans hb1⟩
                      · exact Lib.hid (HD.out.symm.trans hun.out)
                      · have : Lib.byteCells (acc ++ [s[i + 1]]) = Lib.byteCells acc ++ [.int .u8 (s[i + 1] : UInt8).toNat] := by simp [Lib.byteCells]
                        rw [this]
                        rw [HX0.out] at hbu1
                        exact Or.inr hbu1
                    case measure => simp [intOf]; omega
                  · go_wp2_with fail
                    refine (WriteByte_calls _ _ _ _ _ hbu (by rw [Lib.byteCells_length]; omega) hsz).mono ?_
                    rintro e w2 ⟨rfl, hbu1, hb1⟩
                    go_wp2
                    go_roundw
                    case rel =>
                      refine ⟨i + 2, b, acc ++ [s[i + 1]], by go_num, by omega, by omega, by simp; omega, by omega, ?_, ?_, hbw.trans hb1⟩
                      · exact Lib.hid (HD.out.symm.trans hun.out)
                      · have : Lib.byteCells (acc ++ [s[i + 1]]) = Lib.byteCells acc ++ [.int .u8 (s[i + 1] : UInt8).toNat] := by simp [Lib.byteCells]
                        rw [this]
                        rw [HX0.out] at hbu1
                        exact Or.inr hbu1
                    case measure => simp [intOf]; omega
                · rw [if_neg c34] at hd
                  have q34 : ((34 : UInt8) == s[i + 1]) = false := by
                    simp
                    intro h
                    exact c34 (Or.inl (by rw [← h]; rfl))
                  have q92 : ((92 : UInt8) == s[i + 1]) = false := by
                    simp
                    intro h
                    exact c34 (Or.inr (by rw [← h]; rfl))
                  rw [q34] at hp34
                  rw [q92] at hp92
                  have P34 := Lib.hid hp34
                  have P92 := Lib.hid hp92
                  clear hp34 hp92 q34 q92 c34
                  by_cases c110 : s[i + 1].toNat = 110
                  · rw [if_pos c110] at hd
                    have HD := Lib.hid hd
                    have q110 : ((110 : UInt8) == s[i + 1]) = true := by
                      simp
                      exact UInt8.toNat_inj.1 (by rw [c110]; rfl)
                    rw [q110] at hp110
                    have P110 := Lib.hid hp110
                    clear hp110 hd c110 q110
                    go_wp2_with fail
                    refine (Tryz.strings_HasPrefix _ _ _).mono ?_
                    rintro e w1 ⟨rfl, h1w⟩
                    subst h1w
                    rw [P34.out]
                    go_wp2_with fail
                    refine (Tryz.strings_HasPrefix _ _ _).mono ?_
                    rintro e w1 ⟨rfl, h1w⟩
                    subst h1w
                    rw [P92.out]
                    go_wp2_with fail
                    refine (Tryz.strings_HasPrefix _ _ _).mono ?_
                    rintro e w1 ⟨rfl, h1w⟩
                    subst h1w
                    rw [P110.out]
                    go_wp2_with fail
                    refine (WriteByte_calls _ _ _ _ _ hbu (by rw [Lib.byteCells_length]; omega) hsz).mono ?_
                    rintro e w2 ⟨rfl, hbu1, hb1⟩
                    go_wp2
                    go_roundw
                    case rel =>
                      refine ⟨i + 2, b, acc ++ [(10 : UInt8)], by go_num, by omega, by omega, by simp; omega, by omega, ?_, ?_, hbw.trans hb1⟩
                      · exact Lib.hid (HD.out.symm.trans hun.out)
                      · have : Lib.byteCells (acc ++ [(10 : UInt8)]) = Lib.byteCells acc ++ [.int .u8 ((10 : UInt8) : UInt8).toNat] := by simp [Lib.byteCells]
                        rw [this]
                        exact Or.inr hbu1
                    case measure => simp [intOf]; omega
                  · rw [if_neg c110] at hd
                    have q110 : ((110 : UInt8) == s[i + 1]) = false := by
                      simp
                      intro h
                      exact c110 (by rw [← h]; rfl)
                    rw [q110] at hp110
                    have P110 := Lib.hid hp110
                    clear hp110 c110 q110
                    by_cases h3 : i + 3 < s.size
                    · rw [dif_pos h3] at hd
                      have hR1 : 1 < (s.extract (i + 1) s.size).size := by simp; omega
                      have hR2 : 2 < (s.extract (i + 1) s.size).size := by simp; omega
                      have hlen3 : 3 ≤ s.size - (i + 1) := by omega
                      have hx1 : (s.extract (i + 1) s.size)[1] = s[i + 2] := by simp [ByteArray.getElem_extract]
                      have hx2 : (s.extract (i + 1) s.size)[2] = s[i + 3] := by simp [ByteArray.getElem_extract]
                      have HX1 := Lib.hid hx1
                      have HX2 := Lib.hid hx2
                      clear hx1 hx2
                      by_cases c120 : s[i + 1].toNat = 120
                      · have t120 : (((s.extract (i + 1) s.size)[0].toNat : Int) == 120) = true := by rw [HX0.out, c120]; rfl
                        by_cases n1 : nibV s[i + 2].toNat < 16
                        · by_cases n2 : nibV s[i + 3].toNat < 16
                          · rw [if_pos ⟨c120, n1, n2⟩] at hd
                            have HD := Lib.hid hd
                            have m1 : (nibV (s.extract (i + 1) s.size)[1].toNat : Int) < 16 := by rw [HX1.out]; omega
                            have m2 : (nibV (s.extract (i + 1) s.size)[2].toNat : Int) < 16 := by rw [HX2.out]; omega
                            clear hd c120 n1 n2
                            go_wp2_with fail
                            refine (Tryz.strings_HasPrefix _ _ _).mono ?_
                            rintro e w1 ⟨rfl, h1w⟩
                            subst h1w
                            rw [P34.out]
                            go_wp2_with fail
                            refine (Tryz.strings_HasPrefix _ _ _).mono ?_
                            rintro e w1 ⟨rfl, h1w⟩
                            subst h1w
                            rw [P92.out]
                            go_wp2_with fail
                            refine (Tryz.strings_HasPrefix _ _ _).mono ?_
                            rintro e w1 ⟨rfl, h1w⟩
                            subst h1w
                            rw [P110.out]
                            go_wp2_with fail
                            refine (nibble_calls _ _).mono ?_
                            rintro e w1 ⟨rfl, h1w⟩
                            subst h1w
                            go_wp2_with fail
                            refine (nibble_calls _ _).mono ?_
                            rintro e w1 ⟨rfl, h1w⟩
                            subst h1w
                            go_wp2_with fail
                            go_region_with (first | (go_at_call 60; refine (nibble_calls _ _).mono ?_; rintro e w1 ⟨rfl, h1w⟩; subst h1w) | (go_at_call 59; refine (WriteByte_calls _ _ _ _ _ (isB_drew hbu) (by rw [Lib.byteCells_length]; omega) hsz).mono ?_; rintro e w2 ⟨rfl, hbu1, hb1⟩))
                            all_goals
                              go_wp2
                              go_roundw
                              case rel =>
                                refine ⟨i + 4, b, acc ++ [(16 * nibV s[i + 2].toNat + nibV s[i + 3].toNat).toUInt8], by go_num, by omega, by omega, by simp; omega, by omega, ?_, ?_, hbw.trans (below_drew (Below.refl _ _) |>.trans hb1)⟩
                                · exact Lib.hid (HD.out.symm.trans hun.out)
                                · have : Lib.byteCells (acc ++ [(16 * nibV s[i + 2].toNat + nibV s[i + 3].toNat).toUInt8]) = Lib.byteCells acc ++ [.int .u8 ((16 * nibV s[i + 2].toNat + nibV s[i + 3].toNat).toUInt8 : UInt8).toNat] := by simp [Lib.byteCells]
                                  rw [this]
                                  rw [HX1.out, HX2.out, bits16 _ _ (by have := m1; rw [HX1.out] at this; omega) (by have := m2; rw [HX2.out] at this; omega)] at hbu1
                                  exact Or.inr hbu1
                              case measure => simp [intOf]; omega
                          · rw [if_neg (fun h => n2 h.2.2)] at hd
                            have HD := Lib.hid hd
                            have m1 : (nibV (s.extract (i + 1) s.size)[1].toNat : Int) < 16 := by rw [HX1.out]; omega
                            have m2 : ¬ (nibV (s.extract (i + 1) s.size)[2].toNat : Int) < 16 := by rw [HX2.out]; omega
                            clear hd c120 n1 n2
                            go_wp2_with fail
                            refine (Tryz.strings_HasPrefix _ _ _).mono ?_
                            rintro e w1 ⟨rfl, h1w⟩
                            subst h1w
                            rw [P34.out]
                            go_wp2_with fail
                            refine (Tryz.strings_HasPrefix _ _ _).mono ?_
                            rintro e w1 ⟨rfl, h1w⟩
                            subst h1w
                            rw [P92.out]
                            go_wp2_with fail
                            refine (Tryz.strings_HasPrefix _ _ _).mono ?_
                            rintro e w1 ⟨rfl, h1w⟩
                            subst h1w
                            rw [P110.out]
                            go_wp2_with fail
                            refine (nibble_calls _ _).mono ?_
                            rintro e w1 ⟨rfl, h1w⟩
                            subst h1w
                            go_wp2_with fail
                            refine (nibble_calls _ _).mono ?_
                            rintro e w1 ⟨rfl, h1w⟩
                            subst h1w
                            go_wp2
                            go_ret3
                            refine ⟨?_, hbw⟩
                            rw [HR.out, ← hun.out, HD.out]
                            rfl
                        · rw [if_neg (fun h => n1 h.2.1)] at hd
                          have HD := Lib.hid hd
                          have m1 : ¬ (nibV (s.extract (i + 1) s.size)[1].toNat : Int) < 16 := by rw [HX1.out]; omega
                          clear hd c120 n1
                          go_wp2_with fail
                          refine (Tryz.strings_HasPrefix _ _ _).mono ?_
                          rintro e w1 ⟨rfl, h1w⟩
                          subst h1w
                          rw [P34.out]
                          go_wp2_with fail
                          refine (Tryz.strings_HasPrefix _ _ _).mono ?_
                          rintro e w1 ⟨rfl, h1w⟩
                          subst h1w
                          rw [P92.out]
                          go_wp2_with fail
                          refine (Tryz.strings_HasPrefix _ _ _).mono ?_
                          rintro e w1 ⟨rfl, h1w⟩
                          subst h1w
                          rw [P110.out]
                          go_wp2_with fail
                          refine (nibble_calls _ _).mono ?_
                          rintro e w1 ⟨rfl, h1w⟩
                          subst h1w
                          go_wp2
                          go_ret3
                          refine ⟨?_, hbw⟩
                          rw [HR.out, ← hun.out, HD.out]
                          rfl
                      · rw [if_neg (fun h => c120 h.1)] at hd
                        have t120 : (((s.extract (i + 1) s.size)[0].toNat : Int) == 120) = false := by rw [HX0.out]; simp; omega
                        have HD := Lib.hid hd
                        clear hd c120
                        go_wp2_with fail
                        refine (Tryz.strings_HasPrefix _ _ _).mono ?_
                        rintro e w1 ⟨rfl, h1w⟩
                        subst h1w
                        rw [P34.out]
                        go_wp2_with fail
                        refine (Tryz.strings_HasPrefix _ _ _).mono ?_
                        rintro e w1 ⟨rfl, h1w⟩
                        subst h1w
                        rw [P92.out]
                        go_wp2_with fail
                        refine (Tryz.strings_HasPrefix _ _ _).mono ?_
                        rintro e w1 ⟨rfl, h1w⟩
                        subst h1w
                        rw [P110.out]
                        go_wp2
                        go_ret3
                        refine ⟨?_, hbw⟩
                        rw [HR.out, ← hun.out, HD.out]
                        rfl
                    · rw [dif_neg h3] at hd
                      have HD := Lib.hid hd
                      clear hd
                      go_wp2_with fail
                      refine (Tryz.strings_HasPrefix _ _ _).mono ?_
                      rintro e w1 ⟨rfl, h1w⟩
                      subst h1w
                      rw [P34.out]
                      go_wp2_with fail
                      refine (Tryz.strings_HasPrefix _ _ _).mono ?_
                      rintro e w1 ⟨rfl, h1w⟩
                      subst h1w
                      rw [P92.out]
                      go_wp2_with fail
                      refine (Tryz.strings_HasPrefix _ _ _).mono ?_
                      rintro e w1 ⟨rfl, h1w⟩
                      subst h1w
                      rw [P110.out]
                      go_wp2
                      go_ret3
                      refine ⟨?_, hbw⟩
                      rw [HR.out, ← hun.out, HD.out]
                      rfl
              · rw [dif_neg h1] at hp34 hp92 hp110
                have hsz0 : (s.extract (i + 1) s.size).size = 0 := by simp; omega
                have hd := HB.out
                rw [dif_neg h1] at hd
                have HD := Lib.hid hd
                have P34 := Lib.hid hp34
                have P92 := Lib.hid hp92
                have P110 := Lib.hid hp110
                clear hp34 hp92 hp110 hd
                go_wp2_with fail
                refine (Tryz.strings_HasPrefix _ _ _).mono ?_
                rintro e w1 ⟨rfl, h1w⟩
                subst h1w
                rw [P34.out]
                go_wp2_with fail
                refine (Tryz.strings_HasPrefix _ _ _).mono ?_
                rintro e w1 ⟨rfl, h1w⟩
                subst h1w
                rw [P92.out]
                go_wp2_with fail
                refine (Tryz.strings_HasPrefix _ _ _).mono ?_
                rintro e w1 ⟨rfl, h1w⟩
                subst h1w
                rw [P110.out]
                go_wp2
                go_ret3
                refine ⟨?_, hbw⟩
                rw [HR.out, ← hun.out, HD.out]
                rfl
            · have t3 : ((s[i].toNat : Int) != 92) = true := by simp; omega
              have hd := Lib.hid (unq_plain (b := b) (acc := acc) hlt h34 hl h92)
              clear h34 hl h92
              go_wp2_with fail
              refine (WriteByte_calls _ _ _ _ _ hbu (by rw [Lib.byteCells_length]; omega) hsz).mono ?_
              rintro e w1 ⟨rfl, hbu1, hb1⟩
              go_wp2
              go_roundw
              case rel =>
                refine ⟨i + 1, b, acc ++ [s[i]], by go_num, by omega, by omega, by simp; omega, by omega, ?_, ?_, hbw.trans hb1⟩
                · exact Lib.hid (hd.out.symm.trans hun.out)
                · have : Lib.byteCells (acc ++ [s[i]]) = Lib.byteCells acc ++ [.int .u8 s[i].toNat] := by simp [Lib.byteCells]
                  rw [this]
                  exact Or.inr hbu1
              case measure => simp [intOf]; omega
      · have hd := Lib.hid (unq_over (b := b + 1) (acc := acc) hlt)
        go_wp2
        go_ret3
        refine ⟨?_, hbw⟩
        rw [HR.out, ← hun.out, hd.out]
        rfl
end Go.Proofs.YtkanfffbdegfoaaGreatDoor.PD
