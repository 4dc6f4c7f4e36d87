/- Plain laws of quoting: what Unquote reads of Quote's text, with anything behind it; that no beginning of it is read; that its bytes are none that may not stand there. No condition. Plain laws of sets of labels: labels in another order make the same set; Get of a set; a set is a set. No condition. Plain laws of Parse: what it tells of a set's text with blanks between its tokens, its labels in whatever order; with a brace behind. No condition but those stated. -/
import Derived.Test.YtkanfffbdegfoaaGreatDoorKB
import Derived.Test.YtkanfffbdegfoaaGreatDoorKC
import Derived.Test.YtkanfffbdegfoaaGreatDoorKD
import Derived.Test.YtkanfffbdegfoaaGreatDoorKF
namespace Go.Proofs.YtkanfffbdegfoaaGreatDoor.PD
set_option linter.unusedVariables false
set_option linter.unusedSimpArgs false
section
open Go.RowKit Go.Proofs.YtkanfffbdegfoaaGreatDoorW.PrintWords Go.Proofs.YtkanfffbdegfoaaGreatDoorW.PrintLast Go.Proofs.YtkanfffbdegfoaaGreatDoorW.PrintMore

/-- Unquote on a list of bytes: what has been read, and what stands behind. -/
def unqL (acc : List UInt8) : List UInt8 → Option (List UInt8 × List UInt8)
  | [] => none
  | [c] => if c.toNat = 34 then some (acc, []) else none
  | c :: d :: l =>
    if c.toNat = 34 then some (acc, d :: l)
    else if c.toNat < 32 ∨ c.toNat = 127 then none
    else if c.toNat ≠ 92 then unqL (acc ++ [c]) (d :: l)
    else if d.toNat = 34 ∨ d.toNat = 92 then unqL (acc ++ [d]) l
    else if d.toNat = 110 then unqL (acc ++ [10]) l
    else match l with
      | e :: f :: l3 => if d.toNat = 120 ∧ nibV e.toNat < 16 ∧ nibV f.toNat < 16 then unqL (acc ++ [(16 * nibV e.toNat + nibV f.toNat).toUInt8]) l3 else none
      | _ => none

theorem unqL_two (acc : List UInt8) (c d : UInt8) (l : List UInt8) : unqL acc (c :: d :: l) =
    if c.toNat = 34 then some (acc, d :: l)
    else if c.toNat < 32 ∨ c.toNat = 127 then none
    else if c.toNat ≠ 92 then unqL (acc ++ [c]) (d :: l)
    else if d.toNat = 34 ∨ d.toNat = 92 then unqL (acc ++ [d]) l
    else if d.toNat = 110 then unqL (acc ++ [10]) l
    else match l with
      | e :: f :: l3 => if d.toNat = 120 ∧ nibV e.toNat < 16 ∧ nibV f.toNat < 16 then unqL (acc ++ [(16 * nibV e.toNat + nibV f.toNat).toUInt8]) l3 else none
      | _ => none := by
  match l with
  | [] => exact (unqL.eq_def _ _).trans rfl
  | [e] => exact (unqL.eq_def _ _).trans rfl
  | e :: f :: l3 => rw [unqL]
theorem unqL_quote (acc l : List UInt8) : unqL acc (34 :: l) = some (acc, l) := by
  cases l with
  | nil => rfl
  | cons d l => rw [unqL_two]; rfl
theorem unqL_one (acc : List UInt8) (c : UInt8) (h : c.toNat ≠ 34) : unqL acc [c] = none := by rw [unqL, if_neg h]
theorem unqL_low (acc l : List UInt8) (c : UInt8) (h34 : c.toNat ≠ 34) (h : c.toNat < 32 ∨ c.toNat = 127) : unqL acc (c :: l) = none := by
  cases l with
  | nil => exact unqL_one acc c h34
  | cons d l => rw [unqL_two, if_neg h34, if_pos h]
theorem unqL_plain (acc l : List UInt8) (c : UInt8) (h34 : c.toNat ≠ 34) (h : ¬ (c.toNat < 32 ∨ c.toNat = 127)) (h92 : c.toNat ≠ 92) : unqL acc (c :: l) = unqL (acc ++ [c]) l := by
  cases l with
  | nil => rw [unqL_one acc c h34, unqL]
  | cons d l => rw [unqL_two, if_neg h34, if_neg h, if_pos h92]
theorem unqL_esc (acc l : List UInt8) (c d : UInt8) (hc : c.toNat = 92) : unqL acc (c :: d :: l) =
    if d.toNat = 34 ∨ d.toNat = 92 then unqL (acc ++ [d]) l
    else if d.toNat = 110 then unqL (acc ++ [10]) l
    else match l with
      | e :: f :: l3 => if d.toNat = 120 ∧ nibV e.toNat < 16 ∧ nibV f.toNat < 16 then unqL (acc ++ [(16 * nibV e.toNat + nibV f.toNat).toUInt8]) l3 else none
      | _ => none := by
  rw [unqL_two, if_neg (by omega), if_neg (by omega), if_neg (by omega)]

theorem bdrop_at (s : ByteArray) (k : Nat) (h : k < s.size) : s.data.toList.drop k = s[k] :: s.data.toList.drop (k + 1) := by
  have h' : k < s.data.toList.length := by rw [data_length]; exact h
  rw [List.drop_eq_getElem_cons h']
  rfl
theorem bdrop_nil (s : ByteArray) (k : Nat) (h : s.size ≤ k) : s.data.toList.drop k = [] := List.drop_eq_nil_of_le (by rw [data_length]; exact h)

/-- The walk's own reading is that of the list. -/
theorem unq_eq (s : ByteArray) : ∀ (b i : Nat) (acc : List UInt8), s.size < b + i → unq s b i acc = (unqL acc (s.data.toList.drop i)).map fun p => (p.1, s.size - p.2.length)
  | 0, i, acc, h => by rw [bdrop_nil s i (by omega)]; rfl
  | b + 1, i, acc, h => by
    by_cases hi : i < s.size
    · rw [bdrop_at s i hi]
      by_cases h34 : s[i].toNat = 34
      · have e34 : s[i] = 34 := UInt8.toNat_inj.1 h34
        rw [unq_done hi h34, e34, unqL_quote]
        simp [data_length]
        omega
      · by_cases hl : s[i].toNat < 32 ∨ s[i].toNat = 127
        · rw [unq_low hi h34 hl, unqL_low _ _ _ h34 hl]
          rfl
        · by_cases h92 : s[i].toNat = 92
          · rw [unq_back hi h92]
            by_cases h1 : i + 1 < s.size
            · rw [dif_pos h1, bdrop_at s (i + 1) h1, unqL_esc _ _ _ _ h92]
              by_cases c1 : s[i + 1].toNat = 34 ∨ s[i + 1].toNat = 92
              · rw [if_pos c1, if_pos c1, unq_eq s b (i + 2) _ (by omega)]
              · rw [if_neg c1, if_neg c1]
                by_cases c2 : s[i + 1].toNat = 110
                · rw [if_pos c2, if_pos c2, unq_eq s b (i + 2) _ (by omega)]
                · rw [if_neg c2, if_neg c2]
                  by_cases h3 : i + 3 < s.size
                  · rw [dif_pos h3, bdrop_at s (i + 1 + 1) (by omega), bdrop_at s (i + 1 + 1 + 1) (by omega)]
                    show (if s[i + 1].toNat = 120 ∧ nibV s[i + 2].toNat < 16 ∧ nibV s[i + 3].toNat < 16 then _ else none) = Option.map _ (if s[i + 1].toNat = 120 ∧ nibV s[i + 2].toNat < 16 ∧ nibV s[i + 3].toNat < 16 then _ else none)
                    split
                    · rw [unq_eq s b (i + 4) _ (by omega)]
                    · rfl
                  · rw [dif_neg h3]
                    by_cases h2 : i + 2 < s.size
                    · rw [bdrop_at s (i + 1 + 1) h2, bdrop_nil s (i + 1 + 1 + 1) (by omega)]
                      rfl
                    · rw [bdrop_nil s (i + 1 + 1) (by omega)]
                      rfl
            · rw [dif_neg h1, bdrop_nil s (i + 1) (by omega), unqL_one _ _ h34]
              rfl
          · rw [unq_plain hi h34 hl h92, unqL_plain _ _ _ h34 hl h92, unq_eq s b (i + 1) _ (by omega)]
    · rw [unq_over hi, bdrop_nil s i (by omega)]
      rfl

/-! ### what a byte stands for in quotes -/
def plainC (c : UInt8) : Prop := c.toNat ≠ 34 ∧ ¬ (c.toNat < 32 ∨ c.toNat = 127) ∧ c.toNat ≠ 92
theorem unqL_plains (rest : List UInt8) : ∀ (l acc : List UInt8), (∀ c ∈ l, plainC c) → unqL acc (l ++ rest) = unqL (acc ++ l) rest
  | [], acc, _ => by simp
  | c :: l, acc, h => by
    have hc := h c List.mem_cons_self
    rw [List.cons_append, unqL_plain _ _ _ hc.1 hc.2.1 hc.2.2, unqL_plains rest l _ (fun x hx => h x (List.mem_cons_of_mem _ hx)), List.append_assoc]
    rfl
theorem nib_hex : ∀ k : Fin 16, nibV (hexd k.val).toNat = k.val := by decide
theorem nib_hex' (k : Nat) (h : k < 16) : nibV (hexd k).toNat = k := nib_hex ⟨k, h⟩
theorem hex_byte (c : UInt8) : (16 * nibV (hexd (c.toNat / 16)).toNat + nibV (hexd (c.toNat % 16)).toNat).toUInt8 = c := by
  have := c.toNat_lt
  rw [nib_hex' _ (by omega), nib_hex' _ (by omega)]
  apply UInt8.toNat_inj.1
  rw [Nat.toUInt8_eq, UInt8.toNat_ofNat']
  omega
theorem hexd_ok : ∀ k : Fin 16, plainC (hexd k.val) := by unfold plainC; decide

theorem decode_multi (s : ByteArray) (i : Nat) (h : 128 ≤ (s.get! i).toNat) : Utf8.decode s i = (65533, 1) ∨ ∀ k, k < (Utf8.decode s i).2 → 128 ≤ (s.get! (i + k)).toNat := by
  have hc : ∀ n, n / 64 = 2 → 128 ≤ n := fun n hn => by omega
  unfold Utf8.decode
  simp only [Nat.add_zero, Bool.and_eq_true, decide_eq_true_eq, beq_iff_eq]
  rw [if_neg (by omega)]
  split
  · rename_i h1
    split
    · right
      intro k hk
      match k, hk with
      | 0, _ => exact h
      | 1, _ => exact hc _ h1.2.2
    · exact Or.inl rfl
  · split
    · rename_i h1
      split
      · right
        intro k hk
        match k, hk with
        | 0, _ => exact h
        | 1, _ => exact hc _ h1.1.2.2
        | 2, _ => exact hc _ h1.2.2
      · exact Or.inl rfl
    · split
      · rename_i h1
        split
        · right
          intro k hk
          match k, hk with
          | 0, _ => exact h
          | 1, _ => exact hc _ h1.1.1.2.2
          | 2, _ => exact hc _ h1.1.2.2
          | 3, _ => exact hc _ h1.2.2
        · exact Or.inl rfl
      · exact Or.inl rfl
theorem get!_at (s : ByteArray) (i : Nat) (h : i < s.size) : s.get! i = s[i] := by
  have h' : i < s.data.size := h
  show s.data[i]! = s.data[i]
  exact getElem!_pos s.data i h'
theorem extract_list (s : ByteArray) (i w : Nat) (_h : i + w ≤ s.size) : (s.extract i (i + w)).data.toList = (s.data.toList.drop i).take w := by
  rw [Lib.extract_data]
  congr 1
  omega

/-- What a piece of a quoted text is. -/
inductive PieceOf (s : ByteArray) (i : Nat) : List UInt8 → Prop
  | back (c : UInt8) (h : c.toNat = 34 ∨ c.toNat = 92) (hs : (s.data.toList.drop i).take (Utf8.decode s i).2 = [c]) : PieceOf s i [92, c]
  | line (hs : (s.data.toList.drop i).take (Utf8.decode s i).2 = [10]) : PieceOf s i [92, 110]
  | hex (c : UInt8) (hs : (s.data.toList.drop i).take (Utf8.decode s i).2 = [c]) : PieceOf s i [92, 120, hexd (c.toNat / 16), hexd (c.toNat % 16)]
  | self (l : List UInt8) (h : ∀ c ∈ l, plainC c) (hs : (s.data.toList.drop i).take (Utf8.decode s i).2 = l) : PieceOf s i l
theorem piece_of (s : ByteArray) (i : Nat) (h : i < s.size) : PieceOf s i (qPiece s i h) := by
  have hone : (Utf8.decode s i).2 = 1 → (s.data.toList.drop i).take (Utf8.decode s i).2 = [s[i]] := fun e => by rw [e, bdrop_at s i h]; rfl
  have hasc : s[i].toNat < 128 → (Utf8.decode s i).2 = 1 := fun ha => by rw [decode_ascii s i h ha]
  unfold qPiece
  by_cases h1 : s[i].toNat = 34 ∨ s[i].toNat = 92
  · rw [if_pos h1]
    exact .back _ h1 (hone (hasc (by omega)))
  · rw [if_neg h1]
    by_cases h2 : s[i].toNat = 10
    · rw [if_pos h2]
      exact .line (by rw [hone (hasc (by omega)), show s[i] = 10 from UInt8.toNat_inj.1 h2])
    · rw [if_neg h2]
      by_cases h3 : s[i].toNat < 32 ∨ s[i].toNat = 127 ∨ ((Utf8.decode s i).1 = 65533 ∧ (Utf8.decode s i).2 = 1)
      · rw [if_pos h3]
        refine .hex _ (hone ?_)
        rcases h3 with h3 | h3 | h3
        · exact hasc (by omega)
        · exact hasc (by omega)
        · exact h3.2
      · rw [if_neg h3, extract_list s i _ (dec_le s i h)]
        refine .self _ ?_ rfl
        by_cases ha : s[i].toNat < 128
        · rw [hone (hasc ha)]
          intro c hc
          obtain rfl := List.mem_singleton.1 hc
          exact ⟨by omega, by omega, by omega⟩
        · rcases decode_multi s i (by rw [get!_at s i h]; omega) with hd | hd
          · exact absurd hd (fun e => h3 (Or.inr (Or.inr (by rw [e]; exact ⟨rfl, rfl⟩))))
          · intro c hc
            obtain ⟨k, hk, rfl⟩ := List.getElem_of_mem hc
            have hk' : k < (Utf8.decode s i).2 := by rw [List.length_take] at hk; omega
            have hle := dec_le s i h
            have := hd k hk'
            rw [get!_at s (i + k) (by omega)] at this
            have e : ((s.data.toList.drop i).take (Utf8.decode s i).2)[k] = s[i + k]'(by omega) := by
              rw [List.getElem_take, List.getElem_drop]
              rfl
            rw [e]
            exact ⟨by omega, by omega, by omega⟩
theorem piece_read {s : ByteArray} {i : Nat} {P : List UInt8} (h : PieceOf s i P) (acc rest : List UInt8) : unqL acc (P ++ rest) = unqL (acc ++ (s.data.toList.drop i).take (Utf8.decode s i).2) rest := by
  cases h with
  | back c h2 hs => rw [hs]; show unqL acc (92 :: c :: rest) = _; rw [unqL_esc _ _ _ _ (by rfl), if_pos h2]
  | line hs => rw [hs]; show unqL acc (92 :: 110 :: rest) = _; rw [unqL_esc _ _ _ _ (by rfl)]; rfl
  | hex c hs =>
    rw [hs]
    show unqL acc (92 :: 120 :: hexd (c.toNat / 16) :: hexd (c.toNat % 16) :: rest) = _
    have := c.toNat_lt
    rw [unqL_esc _ _ _ _ (by rfl), if_neg (by decide), if_neg (by decide)]
    show (if _ then _ else _) = _
    rw [if_pos ⟨by decide, by rw [nib_hex' _ (by omega)]; omega, by rw [nib_hex' _ (by omega)]; omega⟩, hex_byte]
  | self l h hs => rw [hs]; exact unqL_plains rest P acc h
theorem piece_cut {s : ByteArray} {i : Nat} {P : List UInt8} (h : PieceOf s i P) (acc : List UInt8) (k : Nat) (hk : k < P.length) : unqL acc (P.take k) = none := by
  cases h with
  | back c h hs =>
    match k, hk with
    | 0, _ => rfl
    | 1, _ => exact unqL_one _ _ (by decide)
  | line hs =>
    match k, hk with
    | 0, _ => rfl
    | 1, _ => exact unqL_one _ _ (by decide)
  | hex c hs =>
    match k, hk with
    | 0, _ => rfl
    | 1, _ => exact unqL_one _ _ (by decide)
    | 2, _ => show unqL acc (92 :: 120 :: []) = none; rw [unqL_esc _ _ _ _ (by rfl), if_neg (by decide), if_neg (by decide)]
    | 3, _ => show unqL acc (92 :: 120 :: hexd (c.toNat / 16) :: []) = none; rw [unqL_esc _ _ _ _ (by rfl), if_neg (by decide), if_neg (by decide)]
  | self l h hs =>
    have := unqL_plains [] (P.take k) acc (fun c hc => h c (List.mem_of_mem_take hc))
    rw [List.append_nil] at this
    rw [this, unqL]
theorem piece_bytes {s : ByteArray} {i : Nat} {P : List UInt8} (h : PieceOf s i P) : ∀ c ∈ P, ¬ (c.toNat < 32 ∨ c.toNat = 127) := by
  cases h with
  | back c h hs =>
    intro x hx
    rcases List.mem_cons.1 hx with rfl | hx
    · decide
    · obtain rfl := List.mem_singleton.1 hx
      omega
  | line hs =>
    intro x hx
    rcases List.mem_cons.1 hx with rfl | hx
    · decide
    · obtain rfl := List.mem_singleton.1 hx
      decide
  | hex c hs =>
    have hc := c.toNat_lt
    intro x hx
    rcases List.mem_cons.1 hx with rfl | hx
    · decide
    rcases List.mem_cons.1 hx with rfl | hx
    · decide
    rcases List.mem_cons.1 hx with rfl | hx
    · exact (hexd_ok ⟨c.toNat / 16, by omega⟩).2.1
    · obtain rfl := List.mem_singleton.1 hx
      exact (hexd_ok ⟨c.toNat % 16, by omega⟩).2.1
  | self l h hs => exact fun c hc => (h c hc).2.1

theorem quote_read (s : ByteArray) (rest : List UInt8) : ∀ (b i : Nat), s.size < b + i → i ≤ s.size → unqL (s.data.toList.take i) (quoteFrom s b i ++ rest) = unqL s.data.toList rest
  | 0, i, h, hi => by omega
  | b + 1, i, h, hi => by
    by_cases hlt : i < s.size
    · have hw := width_pos s i hlt
      have hd := dec_le s i hlt
      rw [quote_step hlt, List.append_assoc, piece_read (piece_of s i hlt), ← List.take_add, quote_read s rest b _ (by omega) hd]
    · rw [quote_over hlt, List.nil_append, List.take_of_length_le (by rw [data_length]; omega)]
theorem quote_cut (s : ByteArray) : ∀ (b i : Nat) (acc : List UInt8) (k : Nat), k ≤ (quoteFrom s b i).length → unqL acc ((quoteFrom s b i).take k) = none
  | 0, i, acc, k, h => by rw [quoteFrom]; simp [unqL]
  | b + 1, i, acc, k, h => by
    by_cases hlt : i < s.size
    · rw [quote_step hlt] at h ⊢
      rw [List.length_append] at h
      by_cases hk : k < (qPiece s i hlt).length
      · rw [List.take_append_of_le_length (by omega)]
        exact piece_cut (piece_of s i hlt) acc k hk
      · rw [List.take_append, List.take_of_length_le (by omega), piece_read (piece_of s i hlt)]
        exact quote_cut s b _ _ _ (by omega)
    · rw [quote_over hlt]
      simp [unqL]
theorem quote_bytes (s : ByteArray) : ∀ (b i : Nat), ∀ c ∈ quoteFrom s b i, ¬ (c.toNat < 32 ∨ c.toNat = 127)
  | 0, i, c, hc => by rw [quoteFrom] at hc; cases hc
  | b + 1, i, c, hc => by
    by_cases hlt : i < s.size
    · rw [quote_step hlt] at hc
      rcases List.mem_append.1 hc with hc | hc
      · exact piece_bytes (piece_of s i hlt) c hc
      · exact quote_bytes s b _ c hc
    · rw [quote_over hlt] at hc
      cases hc
theorem quoteL_bytes (s : ByteArray) : ∀ c ∈ quoteL s, ¬ (c.toNat < 32 ∨ c.toNat = 127) := by
  intro c hc
  rw [quoteL] at hc
  rcases List.mem_append.1 hc with hc | hc
  · rcases List.mem_append.1 hc with hc | hc
    · obtain rfl := List.mem_singleton.1 hc
      decide
    · exact quote_bytes s _ _ c hc
  · obtain rfl := List.mem_singleton.1 hc
    decide

/-- Unquote, of a text as a list. -/
theorem unqAll_cons (t : ByteArray) (l : List UInt8) (h : t.data.toList = 34 :: l) : unqAll t = match unqL [] l with | some (v, r) => (⟨v.toArray⟩, ((t.size - r.length : Nat) : Int), 0) | none => (⟨#[]⟩, 0, 134) := by
  have hs : 1 ≤ t.size := by
    have := data_length t
    rw [h] at this
    simp at this
    omega
  have hp : Lib.hasPrefix t.data.toList [34] = true := by rw [h]; rfl
  rw [unqAll, if_pos hp, unq_eq t _ _ _ (by omega), h, List.drop_one, List.tail_cons]
  cases unqL [] l <;> rfl
theorem unqAll_none (t : ByteArray) (h : ∀ l, t.data.toList ≠ 34 :: l) : unqAll t = (⟨#[]⟩, 0, 134) := by
  rw [unqAll, if_neg]
  intro hp
  cases e : t.data.toList with
  | nil => rw [e] at hp; cases hp
  | cons c l =>
    rw [e] at hp
    have : c = 34 := by
      have : (34 == c) = true := by simpa [Lib.hasPrefix, List.isPrefixOf] using hp
      exact (eq_of_beq this).symm
    exact h l (by rw [e, this])
/-- Unquote of Quote's text, with anything behind it. -/
theorem unq_quote (s t : ByteArray) (tail : List UInt8) (h : t.data.toList = quoteL s ++ tail) : unqAll t = (s, ((quoteL s).length : Int), 0) := by
  have h' : t.data.toList = 34 :: (quoteFrom s (s.size + 1) 0 ++ (34 :: tail)) := by rw [h, quoteL]; simp
  rw [unqAll_cons t _ h']
  have := quote_read s (34 :: tail) (s.size + 1) 0 (by omega) (by omega)
  rw [List.take_zero] at this
  rw [this, unqL_quote]
  have hl := data_length t
  rw [h, List.length_append] at hl
  show ((⟨s.data.toList.toArray⟩ : ByteArray), ((t.size - tail.length : Nat) : Int), (0 : Int)) = _
  rw [show t.size - tail.length = (quoteL s).length by omega]
theorem unq_part (s t : ByteArray) (k : Nat) (hk : k < (quoteL s).length) (h : t.data.toList = (quoteL s).take k) : unqAll t = (⟨#[]⟩, 0, 134) := by
  rw [quoteL, List.append_assoc] at h hk
  cases k with
  | zero => exact unqAll_none t (fun l e => by rw [h] at e; cases e)
  | succ k =>
    rw [List.singleton_append, List.take_succ_cons] at h
    rw [List.length_append, List.length_append] at hk
    simp only [List.length_singleton] at hk
    rw [unqAll_cons t _ h, List.take_append_of_le_length (by omega), quote_cut s _ _ _ _ (by omega)]
end
section
open Go.RowKit Go.Proofs.YtkanfffbdegfoaaGreatDoorW.PrintWords Go.Proofs.YtkanfffbdegfoaaGreatDoorW.PrintLast Go.Proofs.YtkanfffbdegfoaaGreatDoorW.PrintMore
open Go.Sort

/-- A label's name, as a list. -/
def nmL (x : S130) : List UInt8 := x.f0.data.toList
theorem nm_beq (a b : ByteArray) : (a.toList == b.toList) = decide (a.data.toList = b.data.toList) := by
  rw [ByteArray.toList_eq, ByteArray.toList_eq]
  by_cases h : a.data.toList = b.data.toList
  · rw [h]; simp
  · rw [decide_eq_false h, beq_eq_false_iff_ne]; exact h
theorem any_iff (x : S130) (pre : List S130) : pre.any (fun y => x.f0.toList == y.f0.toList) = true ↔ nmL x ∈ pre.map nmL := by
  rw [List.any_eq_true, List.mem_map]
  constructor
  · rintro ⟨y, hy, h⟩
    rw [nm_beq, decide_eq_true_iff] at h
    exact ⟨y, hy, h.symm⟩
  · rintro ⟨y, hy, h⟩
    exact ⟨y, hy, by rw [nm_beq, decide_eq_true_iff]; exact h.symm⟩
/-- May labels make a set, but for how many they are? -/
def fitL (l : List S130) : Prop := (∀ x ∈ l, nameB x.f0 = true ∧ valB x.f1 = true) ∧ (l.map nmL).Nodup
theorem setE_iff : ∀ (l pre : List S130), setE pre l = 0 ↔ (∀ x ∈ l, nameB x.f0 = true ∧ valB x.f1 = true ∧ nmL x ∉ pre.map nmL) ∧ (l.map nmL).Nodup
  | [], pre => by simp [setE]
  | x :: l, pre => by
    rw [setE]
    by_cases h1 : nameB x.f0 = false
    · rw [if_pos h1]
      simp [h1]
    · rw [if_neg h1]
      by_cases h2 : valB x.f1 = false
      · rw [if_pos h2]
        simp [h2]
      · rw [if_neg h2]
        by_cases h3 : pre.any (fun y => x.f0.toList == y.f0.toList) = true
        · rw [if_pos h3]
          rw [any_iff] at h3
          constructor
          · intro h; omega
          · intro h; exact absurd h3 (h.1 x List.mem_cons_self).2.2
        · rw [if_neg h3, setE_iff l (pre ++ [x])]
          rw [any_iff] at h3
          rw [Bool.not_eq_false] at h1 h2
          rw [List.map_cons, List.nodup_cons]
          constructor
          · rintro ⟨ha, hb⟩
            refine ⟨fun y hy => ?_, fun hm => ?_, hb⟩
            · rcases List.mem_cons.1 hy with rfl | hy
              · exact ⟨h1, h2, h3⟩
              · have := ha y hy
                exact ⟨this.1, this.2.1, fun hm => this.2.2 (by rw [List.map_append]; exact List.mem_append_left _ hm)⟩
            · obtain ⟨y, hy, e⟩ := List.mem_map.1 hm
              exact (ha y hy).2.2 (by rw [List.map_append, e]; simp)
          · rintro ⟨ha, hb, hc⟩
            refine ⟨fun y hy => ?_, hc⟩
            have := ha y (List.mem_cons_of_mem _ hy)
            refine ⟨this.1, this.2.1, fun hm => ?_⟩
            rw [List.map_append] at hm
            rcases List.mem_append.1 hm with hm | hm
            · exact this.2.2 hm
            · obtain e : nmL y = nmL x := by simpa using hm
              exact hb (by rw [← e]; exact List.mem_map_of_mem hy)
theorem setE_fit (l : List S130) : setE [] l = 0 ↔ fitL l := by
  rw [setE_iff, fitL]
  simp
theorem fit_perm {l m : List S130} (h : l.Perm m) : fitL l ↔ fitL m := by
  unfold fitL
  exact and_congr ⟨fun H x hx => H x (h.mem_iff.2 hx), fun H x hx => H x (h.mem_iff.1 hx)⟩ (h.map nmL).nodup_iff

theorem srt_pair (l : List S130) : (srtL l).Pairwise fun x y => (!(ltOf ordL) y x) = true :=
  List.pairwise_mergeSort (fun x y z h1 h2 => by
    simp only [Bool.not_eq_true'] at h1 h2 ⊢
    exact swoL.ntrans z y x h2 h1) (fun x y => by
    cases h : ltOf ordL y x
    · rfl
    · cases h2 : ltOf ordL x y
      · rfl
      · have := swoL.trans _ _ _ h h2
        rw [swoL.irrefl] at this
        cases this) l
theorem srt_anti (x y : S130) (h1 : (!(ltOf ordL) y x) = true) (h2 : (!(ltOf ordL) x y) = true) : x = y := by
  simp only [Bool.not_eq_true'] at h1 h2
  exact totL x y h2 h1
theorem srt_perm {l m : List S130} (h : l.Perm m) : srtL l = srtL m :=
  List.Perm.eq_of_pairwise (fun a b _ _ h1 h2 => srt_anti a b h1 h2) (srt_pair l) (srt_pair m) (((srtL_perm l).trans h).trans (srtL_perm m).symm)
theorem srt_id {l : List S130} (h : l.Pairwise fun x y => (!(ltOf ordL) y x) = true) : srtL l = l :=
  List.Perm.eq_of_pairwise (fun a b _ _ h1 h2 => srt_anti a b h1 h2) (srt_pair l) h (srtL_perm l)

/-- Labels in another order. -/
theorem set_perm {l m : List S130} (h : l.Perm m) : (setL l).1 = (setL m).1 ∧ ((setL l).2 = 0 ↔ (setL m).2 = 0) := by
  have hf : (full l).Perm (full m) := h.filter _
  by_cases h1 : setE [] l = 0
  · have h2 : setE [] m = 0 := (setE_fit m).2 ((fit_perm h).1 ((setE_fit l).1 h1))
    have e : setL l = setL m := by
      unfold setL
      rw [h1, h2, hf.length_eq, srt_perm hf]
    rw [e]
    exact ⟨rfl, Iff.rfl⟩
  · have h2 : ¬ setE [] m = 0 := fun e => h1 ((setE_fit l).2 ((fit_perm h).2 ((setE_fit m).1 e)))
    unfold setL
    rw [if_pos h1, if_pos h2]
    exact ⟨rfl, ⟨fun e => absurd e h1, fun e => absurd e h2⟩⟩
/-- What Set tells where it tells no error. -/
theorem set_ok {l : List S130} (h : (setL l).2 = 0) : fitL l ∧ (full l).length ≤ 16 ∧ (setL l).1 = srtL (full l) := by
  unfold setL at h ⊢
  by_cases h1 : setE [] l = 0
  · rw [if_neg (by simp [h1])] at h ⊢
    by_cases h2 : 16 < (full l).length
    · rw [if_pos h2] at h
      exact absurd h (by decide)
    · rw [if_neg h2]
      exact ⟨(setE_fit l).1 h1, by omega, rfl⟩
  · rw [if_pos h1] at h
    exact absurd h h1
theorem set_of_fit {l : List S130} (h : fitL l) (h2 : (full l).length ≤ 16) : setL l = (srtL (full l), 0) := by
  unfold setL
  rw [if_neg (by simp [(setE_fit l).2 h]), if_neg (by omega)]
theorem full_nodup {l : List S130} (h : (l.map nmL).Nodup) : ((full l).map nmL).Nodup := h.sublist (List.filter_sublist.map nmL)
theorem nodup_inj : ∀ {l : List S130}, (l.map nmL).Nodup → ∀ {x y : S130}, x ∈ l → y ∈ l → nmL x = nmL y → x = y
  | [], _, _, _, hx, _, _ => by cases hx
  | z :: l, h, x, y, hx, hy, e => by
    rw [List.map_cons, List.nodup_cons] at h
    rcases List.mem_cons.1 hx with hx1 | hx1
    · rcases List.mem_cons.1 hy with hy1 | hy1
      · rw [hx1, hy1]
      · exact absurd (List.mem_map_of_mem (f := nmL) hy1) (by rw [← e, hx1]; exact h.1)
    · rcases List.mem_cons.1 hy with hy1 | hy1
      · exact absurd (List.mem_map_of_mem (f := nmL) hx1) (by rw [e, hy1]; exact h.1)
      · exact nodup_inj h.2 hx1 hy1 e
theorem isSetL_all' {l : List S130} (h : isSetL l = true) : l.length ≤ 16 ∧ (∀ x ∈ l, goodL x = true) ∧ ascL l = true := by
  rw [isSetL, Bool.and_eq_true, Bool.and_eq_true, decide_eq_true_iff, List.all_eq_true] at h
  exact ⟨h.1.1, h.1.2, h.2⟩

/-- Get of a list whose names are all unlike. -/
theorem get_of {l : List S130} (h : (l.map nmL).Nodup) {x : S130} (hx : x ∈ l) (nm : ByteArray) (e : nm.data.toList = nmL x) : getL l nm = x.f1 := by
  unfold getL
  cases hf : l.find? (fun y => y.f0.toList == nm.toList) with
  | none =>
    have := List.find?_eq_none.1 hf x hx
    rw [nm_beq, decide_eq_true_iff] at this
    exact absurd e.symm this
  | some y =>
    have h1 := List.find?_some hf
    have h2 := List.mem_of_find?_eq_some hf
    rw [nm_beq, decide_eq_true_iff] at h1
    rw [nodup_inj h h2 hx (show nmL y = nmL x by rw [← e]; exact h1)]
theorem get_none {l : List S130} (nm : ByteArray) (h : nm.data.toList ∉ l.map nmL) : getL l nm = ⟨#[]⟩ := by
  unfold getL
  rw [List.find?_eq_none.2 (fun y hy h1 => by
    rw [nm_beq, decide_eq_true_iff] at h1
    exact h (by rw [← h1]; exact List.mem_map_of_mem hy))]
theorem empty_of {s : ByteArray} (h : s.size = 0) : s = ⟨#[]⟩ := by
  apply ba_ext
  rw [List.eq_nil_of_length_eq_zero (l := s.data.toList) (by rw [data_length]; exact h)]
theorem get_set {l : List S130} (h : fitL l) {x : S130} (hx : x ∈ l) : getL (srtL (full l)) x.f0 = x.f1 := by
  have hp := srtL_perm (full l)
  by_cases hz : x.f1.size = 0
  · rw [empty_of hz]
    refine get_none _ fun hm => ?_
    obtain ⟨y, hy, e⟩ := List.mem_map.1 hm
    have hy := hp.mem_iff.1 hy
    have hyl : y ∈ l := (List.mem_filter.1 hy).1
    obtain rfl := nodup_inj h.2 hyl hx e
    have := (List.mem_filter.1 hy).2
    simp [hz] at this
  · refine get_of ?_ (hp.mem_iff.2 (List.mem_filter.2 ⟨hx, by simpa using hz⟩)) _ rfl
    exact (hp.map nmL).nodup_iff.2 (full_nodup h.2)
/-- Each name stands ahead of the next one's. -/
theorem asc_of {l : List S130} (h : l.Pairwise fun x y => (!(ltOf ordL) y x) = true) (hn : (l.map nmL).Nodup) : ∀ j (hj : j + 1 < l.length), Lib.compareBytes l[j].f0.data.toList l[j + 1].f0.data.toList < 0 := by
  intro j hj
  have h1 := List.pairwise_iff_getElem.1 h j (j + 1) (by omega) hj (by omega)
  have hne : ¬ nmL l[j] = nmL l[j + 1] := by
    have := List.pairwise_iff_getElem.1 hn j (j + 1) (by simp; omega) (by simpa using hj) (by omega)
    simpa using this
  rcases cb_vals l[j].f0.data.toList l[j + 1].f0.data.toList with e | e | e
  · omega
  · exact absurd (cb_zero e) hne
  · exfalso
    have : ordL l[j + 1] l[j] < 0 := (ordL_lt _ _).2 (Or.inl (by rw [cb_neg]; omega))
    simp only [Bool.not_eq_true', ltOf, decide_eq_false_iff_not] at h1
    exact h1 this
theorem set_asc {l : List S130} (h : fitL l) : ascL (srtL (full l)) = true :=
  (ascL_at _).2 (asc_of (srt_pair _) (((srtL_perm (full l)).map nmL).nodup_iff.2 (full_nodup h.2)))
/-- What Set makes is a set. -/
theorem isSet_set {l : List S130} (h : (setL l).2 = 0) : isSetL (setL l).1 = true := by
  obtain ⟨h1, h2, h3⟩ := set_ok h
  rw [h3, isSetL, set_asc h1, decide_eq_true (by rw [srtL_len]; exact h2), List.all_eq_true.2 (fun x hx => by
    have hx := (srtL_perm _).mem_iff.1 hx
    have h4 := h1.1 x ((List.mem_filter.1 hx).1)
    rw [goodL, h4.1, h4.2]
    have := (List.mem_filter.1 hx).2
    simpa using this)]
  rfl
/-- A set's names all rise. -/
theorem asc_pair : ∀ {l : List S130}, ascL l = true → l.Pairwise fun x y => Lib.compareBytes x.f0.data.toList y.f0.data.toList < 0
  | [], _ => List.Pairwise.nil
  | [x], _ => List.pairwise_singleton _ _
  | x :: y :: l, h => by
    rw [ascL, Bool.and_eq_true, decide_eq_true_iff] at h
    have ih := asc_pair h.2
    refine List.pairwise_cons.2 ⟨fun z hz => ?_, ih⟩
    rcases List.mem_cons.1 hz with rfl | hz
    · exact h.1
    · exact cb_trans h.1 ((List.pairwise_cons.1 ih).1 z hz)
theorem asc_nodup {l : List S130} (h : ascL l = true) : (l.map nmL).Nodup := by
  refine List.pairwise_map.2 ((asc_pair h).imp fun {x y} hxy e => ?_)
  have : x.f0.data.toList = y.f0.data.toList := e
  rw [this, cb_self] at hxy
  exact absurd hxy (by decide)
theorem asc_srt {l : List S130} (h : ascL l = true) : l.Pairwise fun x y => (!(ltOf ordL) y x) = true :=
  (asc_pair h).imp fun {x y} hxy => by
    simp only [Bool.not_eq_true', ltOf, decide_eq_false_iff_not]
    intro h2
    exact ordL_irrefl x (ordL_trans ((ordL_lt x y).2 (Or.inl hxy)) h2)
theorem isSet_fit {l : List S130} (h : isSetL l = true) : fitL l ∧ full l = l ∧ l.length ≤ 16 := by
  obtain ⟨h1, h2, h3⟩ := isSetL_all' h
  refine ⟨⟨fun x hx => ?_, asc_nodup h3⟩, List.filter_eq_self.2 fun x hx => ?_, h1⟩
  · have := h2 x hx
    rw [goodL, Bool.and_eq_true, Bool.and_eq_true] at this
    exact ⟨this.1.1, this.1.2⟩
  · have := h2 x hx
    rw [goodL, Bool.and_eq_true] at this
    exact this.2
/-- A set, in whatever order, makes itself. -/
theorem set_of_set {l m : List S130} (h : isSetL l = true) (hp : m.Perm l) : setL m = (l, 0) := by
  obtain ⟨h1, h2, h3⟩ := isSet_fit h
  have hm : fitL m := (fit_perm hp).2 h1
  have hf : (full m).Perm l := by
    have := hp.filter (fun x => x.f1.size != 0)
    have e : full l = l := h2
    unfold full at e ⊢
    rwa [e] at this
  rw [set_of_fit hm (by rw [hf.length_eq]; exact h3), srt_perm hf, srt_id (asc_srt (isSetL_all' h).2.2)]
end
section
open Go.RowKit Go.Proofs.YtkanfffbdegfoaaGreatDoorW.PrintWords Go.Proofs.YtkanfffbdegfoaaGreatDoorW.PrintLast Go.Proofs.YtkanfffbdegfoaaGreatDoorW.PrintMore

/-- What stands in a text from a place on. -/
def Stands (s : ByteArray) (i : Nat) (R : List UInt8) : Prop := i ≤ s.size ∧ s.data.toList.drop i = R
theorem Stands.len {s : ByteArray} {i : Nat} {R : List UInt8} (h : Stands s i R) : i + R.length = s.size := by
  have := congrArg List.length h.2
  rw [List.length_drop, data_length] at this
  have := h.1
  omega
theorem Stands.app {s : ByteArray} {i : Nat} {A R : List UInt8} (h : Stands s i (A ++ R)) : Stands s (i + A.length) R := by
  have hl := h.len
  rw [List.length_append] at hl
  exact ⟨by omega, by rw [← List.drop_drop, h.2, List.drop_left]⟩
theorem Stands.next {s : ByteArray} {i : Nat} {c : UInt8} {R : List UInt8} (h : Stands s i (c :: R)) : ∃ hi : i < s.size, s[i] = c ∧ Stands s (i + 1) R := by
  have hl := h.len
  rw [List.length_cons] at hl
  have hi : i < s.size := by omega
  have h2 := h.2
  rw [bdrop_at s i hi] at h2
  injection h2 with h3 h4
  exact ⟨hi, h3, by omega, h4⟩
theorem Stands.over {s : ByteArray} {i : Nat} (h : Stands s i []) : ¬ i < s.size := by
  have := h.len
  simp at this
  omega
theorem Stands.tail {s : ByteArray} {i : Nat} {R : List UInt8} (h : Stands s i R) : (s.extract i s.size).data.toList = R := by
  rw [Lib.extract_data, List.take_of_length_le (by rw [List.length_drop, data_length]; omega)]
  exact h.2
theorem Stands.cut {s : ByteArray} {i : Nat} {A R : List UInt8} (h : Stands s i (A ++ R)) : (s.extract i (i + A.length)).data.toList = A := by
  rw [Lib.extract_data, h.2, show i + A.length - i = A.length by omega, List.take_left]
theorem Stands.all (s : ByteArray) : Stands s 0 s.data.toList := ⟨Nat.zero_le _, rfl⟩

def sp (k : Nat) : List UInt8 := List.replicate k 32
theorem sp_len (k : Nat) : (sp k).length = k := List.length_replicate
def noBl (R : List UInt8) : Prop := ∀ R', R ≠ 32 :: R'
theorem noBl_cons {c : UInt8} {R : List UInt8} (h : c ≠ 32) : noBl (c :: R) := fun _ e => h (by injection e)
theorem noBl_nil : noBl [] := fun _ e => by cases e

theorem skip_at {s : ByteArray} {R : List UInt8} (hR : noBl R) : ∀ (k i : Nat), Stands s i (sp k ++ R) → skipF s i = i + k
  | 0, i, h => by
    have h : Stands s i R := h
    cases R with
    | nil => exact skipF_end s i h.over
    | cons c R =>
      obtain ⟨hi, hc, _⟩ := h.next
      refine skipF_stop s i hi fun e => ?_
      rw [hc] at e
      exact hR R (by rw [show c = 32 from UInt8.toNat_inj.1 e])
  | k + 1, i, h => by
    have h : Stands s i (32 :: (sp k ++ R)) := h
    obtain ⟨hi, hc, hn⟩ := h.next
    rw [skipF_go s i hi (by rw [hc]; rfl), skip_at hR k (i + 1) hn]
    omega
theorem skip_to {s : ByteArray} {R : List UInt8} {k i : Nat} (h : Stands s i (sp k ++ R)) : Stands s (i + k) R := by
  have := h.app
  rwa [sp_len] at this
theorem one_yes {s : ByteArray} {R : List UInt8} {a b i : Nat} {c : UInt8} (hc : c ≠ 32) (hR : noBl R) (h : Stands s i (sp a ++ c :: (sp b ++ R))) : oneF s c.toNat i = (true, i + a + 1 + b) ∧ Stands s (i + a + 1 + b) R := by
  have e1 := skip_at (noBl_cons hc) a i h
  obtain ⟨hi, h2, h3⟩ := (skip_to h).next
  have e2 := skip_at hR b (i + a + 1) h3
  refine ⟨?_, skip_to h3⟩
  rw [oneF, dif_pos (by rw [e1]; exact hi)]
  simp only [e1]
  rw [if_pos (by rw [h2]), e2]
theorem one_no {s : ByteArray} {R : List UInt8} {a i : Nat} {c : UInt8} (hR : noBl R) (hc : ∀ R', R ≠ c :: R') (h : Stands s i (sp a ++ R)) : oneF s c.toNat i = (false, i + a) ∧ Stands s (i + a) R := by
  have e1 := skip_at hR a i h
  refine ⟨?_, skip_to h⟩
  have h2 := skip_to h
  cases R with
  | nil => rw [oneF, dif_neg (by rw [e1]; exact h2.over), e1]
  | cons d R =>
    obtain ⟨hi, h3, _⟩ := h2.next
    rw [oneF, dif_pos (by rw [e1]; exact hi)]
    simp only [e1]
    rw [if_neg]
    intro e
    rw [h3] at e
    exact hc R (by rw [UInt8.toNat_inj.1 e])

/-- Does no byte that goes on with a name stand at the front? -/
def noFur (R : List UInt8) : Prop := ∀ c R', R = c :: R' → furtherB c.toNat = false
theorem fur_at {s : ByteArray} {R : List UInt8} (hR : noFur R) : ∀ (N : List UInt8) (i : Nat), (∀ c ∈ N, furtherB c.toNat = true) → Stands s i (N ++ R) → furF s i = i + N.length
  | [], i, _, h => by
    have h : Stands s i R := h
    cases R with
    | nil => exact furF_end s i h.over
    | cons c R =>
      obtain ⟨hi, hc, _⟩ := h.next
      exact furF_stop s i hi (by rw [hc]; exact hR c R rfl)
  | c :: N, i, hN, h => by
    have h : Stands s i (c :: (N ++ R)) := h
    obtain ⟨hi, hc, hn⟩ := h.next
    rw [furF_go s i hi (by rw [hc]; exact hN c List.mem_cons_self), fur_at hR N (i + 1) (fun x hx => hN x (List.mem_cons_of_mem _ hx)) hn, List.length_cons]
    omega
theorem nameB_list {s : ByteArray} (h : nameB s = true) : ∃ c N, s.data.toList = c :: N ∧ firstB c.toNat = true ∧ ∀ x ∈ c :: N, furtherB x.toNat = true := by
  rw [nameB, Bool.and_eq_true, Bool.and_eq_true, decide_eq_true_iff] at h
  have hl := data_length s
  cases e : s.data.toList with
  | nil => rw [e] at hl; simp at hl; omega
  | cons c N =>
    rw [e] at h
    refine ⟨c, N, rfl, ?_, List.all_eq_true.1 h.2⟩
    simpa using h.1.2
theorem fur_sp (a : Nat) (R : List UInt8) : noFur (sp a ++ 61 :: R) := by
  intro c R' e
  cases a with
  | zero =>
    have e : (61 : UInt8) :: R = c :: R' := e
    injection e with e _
    subst e
    decide
  | succ a =>
    have e : (32 : UInt8) :: (sp a ++ 61 :: R) = c :: R' := e
    injection e with e _
    subst e
    decide
/-- A label, blanks about its '='. -/
def itemT (x : S130) (a b : Nat) : List UInt8 := x.f0.data.toList ++ (sp a ++ 61 :: (sp b ++ quoteL x.f1))
theorem quoteL_cons (s : ByteArray) (R : List UInt8) : quoteL s ++ R = 34 :: (quoteFrom s (s.size + 1) 0 ++ [34] ++ R) := by rw [quoteL]; simp
theorem label_at {s : ByteArray} {x : S130} {a b i : Nat} {R : List UInt8} (hx : nameB x.f0 = true) (h : Stands s i (itemT x a b ++ R)) : labelF s i = (x, true, i + (itemT x a b).length) ∧ Stands s (i + (itemT x a b).length) R := by
  refine ⟨?_, h.app⟩
  obtain ⟨c, N, hN, hf, hfu⟩ := nameB_list hx
  have h1 : Stands s i (x.f0.data.toList ++ (sp a ++ 61 :: (sp b ++ (quoteL x.f1 ++ R)))) := by
    have e : itemT x a b ++ R = x.f0.data.toList ++ (sp a ++ 61 :: (sp b ++ (quoteL x.f1 ++ R))) := by simp [itemT]
    rw [← e]
    exact h
  have hfur := fur_at (fur_sp a _) x.f0.data.toList i (by rw [hN]; exact hfu) h1
  have hname : nameF s i = i + x.f0.data.toList.length := by
    have h2 := h1
    rw [hN] at h2
    obtain ⟨hi, hc, _⟩ := h2.next
    rw [nameF, dif_pos hi, if_pos (by rw [hc]; exact hf), hfur]
  have hne : ¬ nameF s i = i := by rw [hname, hN, List.length_cons]; omega
  have hcut : s.extract i (nameF s i) = x.f0 := by
    apply ba_ext
    rw [hname, h1.cut]
  have hb : noBl (quoteL x.f1 ++ R) := by rw [quoteL_cons]; exact noBl_cons (by decide)
  obtain ⟨o1, o2⟩ := one_yes (c := 61) (by decide) hb h1.app
  have o1 : oneF s 61 (i + x.f0.data.toList.length) = (true, i + x.f0.data.toList.length + a + 1 + b) := o1
  have hu := unq_quote x.f1 _ R o2.tail
  rw [labelF, if_neg hne, hcut, hname, o1]
  simp only [if_true]
  rw [hu]
  have hlen : (itemT x a b).length = x.f0.data.toList.length + (a + 1 + (b + (quoteL x.f1).length)) := by
    rw [itemT, List.length_append, List.length_append, List.length_cons, List.length_append, sp_len, sp_len]
    omega
  rw [hlen]
  simp only [Int.toNat_natCast]
  congr 1
  congr 1
  omega

/-- A label and its blanks. -/
structure Item where
  x : S130
  a : Nat
  b : Nat
  c : Nat
  d : Nat
/-- Labels with commas between, blanks about all. -/
def bodyT : List Item → List UInt8
  | [] => []
  | [q] => itemT q.x q.a q.b ++ sp q.c
  | q :: p :: r => itemT q.x q.a q.b ++ (sp q.c ++ 44 :: (sp q.d ++ bodyT (p :: r)))
theorem itemT_cons {x : S130} (hx : nameB x.f0 = true) (a b : Nat) (R : List UInt8) : ∃ c R', itemT x a b ++ R = c :: R' ∧ firstB c.toNat = true := by
  obtain ⟨c, N, hN, hf, _⟩ := nameB_list hx
  exact ⟨c, _, by rw [itemT, hN]; rfl, hf⟩
theorem first_ne {c : UInt8} (h : firstB c.toNat = true) : c ≠ 32 ∧ c ≠ 125 := by
  constructor
  · rintro rfl
    exact absurd h (by decide)
  · rintro rfl
    exact absurd h (by decide)
theorem bodyT_cons {q : Item} {r : List Item} (hx : nameB q.x.f0 = true) (R : List UInt8) : ∃ c R', bodyT (q :: r) ++ R = c :: R' ∧ firstB c.toNat = true := by
  cases r with
  | nil =>
    obtain ⟨c, R', h, hf⟩ := itemT_cons hx q.a q.b (sp q.c ++ R)
    exact ⟨c, R', by rw [bodyT, List.append_assoc]; exact h, hf⟩
  | cons p r =>
    obtain ⟨c, R', h, hf⟩ := itemT_cons hx q.a q.b ((sp q.c ++ 44 :: (sp q.d ++ bodyT (p :: r))) ++ R)
    exact ⟨c, R', by rw [bodyT, List.append_assoc]; exact h, hf⟩
theorem noBl_brace (R : List UInt8) : noBl (125 :: R) := noBl_cons (by decide)
/-- The loop of Parse, over such labels. -/
theorem pl_at {s : ByteArray} {R : List UInt8} : ∀ (r : List Item) (q : Item) (f i : Nat) (l : List S130), (∀ p ∈ q :: r, nameB p.x.f0 = true) → s.size < f + i → Stands s i (bodyT (q :: r) ++ 125 :: R) → ∃ j, plF s f i l = (l ++ (q :: r).map (·.x), true, j) ∧ Stands s j (125 :: R)
  | [], q, 0, i, l, _, hf, h => by have := h.1; omega
  | [], q, f + 1, i, l, hx, hf, h => by
    rw [bodyT, List.append_assoc] at h
    obtain ⟨h1, h2⟩ := label_at (hx q List.mem_cons_self) h
    obtain ⟨o1, o2⟩ := one_no (c := 44) (noBl_brace R) (fun R' e => by injection e with e; exact absurd e (by decide)) h2
    have o1 : oneF s 44 (i + (itemT q.x q.a q.b).length) = (false, i + (itemT q.x q.a q.b).length + q.c) := o1
    refine ⟨_, ?_, o2⟩
    rw [plF, h1]
    simp only [if_true]
    rw [o1]
    rfl
  | p :: r, q, 0, i, l, _, hf, h => by have := h.1; omega
  | p :: r, q, f + 1, i, l, hx, hf, h => by
    have e : bodyT (q :: p :: r) ++ 125 :: R = itemT q.x q.a q.b ++ (sp q.c ++ 44 :: (sp q.d ++ (bodyT (p :: r) ++ 125 :: R))) := by simp [bodyT]
    rw [e] at h
    obtain ⟨h1, h2⟩ := label_at (hx q List.mem_cons_self) h
    obtain ⟨c, R', hc, hfc⟩ := bodyT_cons (r := r) (hx p (List.mem_cons_of_mem _ List.mem_cons_self)) (125 :: R)
    have hb : noBl (bodyT (p :: r) ++ 125 :: R) := by rw [hc]; exact noBl_cons (first_ne hfc).1
    obtain ⟨o1, o2⟩ := one_yes (c := 44) (by decide) hb h2
    have o1 : oneF s 44 (i + (itemT q.x q.a q.b).length) = (true, i + (itemT q.x q.a q.b).length + q.c + 1 + q.d) := o1
    obtain ⟨j, hj, hs⟩ := pl_at r p f _ (l ++ [q.x]) (fun y hy => hx y (List.mem_cons_of_mem _ hy)) (by omega) o2
    refine ⟨j, ?_, hs⟩
    rw [plF, h1]
    simp only [if_true]
    rw [o1]
    simp only [if_true]
    rw [hj]
    simp

/-- A text with blanks about its tokens. -/
def blankT (b0 b1 b6 : Nat) (r : List Item) : List UInt8 := sp b0 ++ 123 :: (sp b1 ++ (bodyT r ++ 125 :: sp b6))
theorem parseR_at {s : ByteArray} {b0 b1 b6 : Nat} {r : List Item} {R : List UInt8} (hx : ∀ p ∈ r, nameB p.x.f0 = true) (hR : noBl R) (hs : s.data.toList = blankT b0 b1 b6 r ++ R) : ∃ j, parseR s = (r.map (·.x), true, j) ∧ Stands s j R := by
  have h0 := Stands.all s
  have e : blankT b0 b1 b6 r ++ R = sp b0 ++ 123 :: (sp b1 ++ (bodyT r ++ 125 :: (sp b6 ++ R))) := by simp [blankT]
  rw [hs, e] at h0
  have hb : noBl (bodyT r ++ 125 :: (sp b6 ++ R)) := by
    cases r with
    | nil => exact noBl_brace _
    | cons q r =>
      obtain ⟨c, R', hc, hfc⟩ := bodyT_cons (r := r) (hx q List.mem_cons_self) (125 :: (sp b6 ++ R))
      rw [hc]
      exact noBl_cons (first_ne hfc).1
  obtain ⟨o1, o2⟩ := one_yes (c := 123) (by decide) hb h0
  have o1 : oneF s 123 0 = (true, 0 + b0 + 1 + b1) := o1
  rw [parseR, o1]
  simp only [if_true]
  cases r with
  | nil =>
    have o2 : Stands s (0 + b0 + 1 + b1) (sp 0 ++ 125 :: (sp b6 ++ R)) := o2
    obtain ⟨p1, p2⟩ := one_yes (c := 125) (by decide) hR o2
    have p1 : oneF s 125 (0 + b0 + 1 + b1) = (true, 0 + b0 + 1 + b1 + 0 + 1 + b6) := p1
    refine ⟨_, ?_, p2⟩
    rw [p1]
    rfl
  | cons q r =>
    obtain ⟨c, R', hc, hfc⟩ := bodyT_cons (r := r) (hx q List.mem_cons_self) (125 :: (sp b6 ++ R))
    have h3 : Stands s (0 + b0 + 1 + b1) (sp 0 ++ (c :: R')) := by rw [← hc]; exact o2
    obtain ⟨p1, _⟩ := one_no (c := 125) (noBl_cons (first_ne hfc).1) (fun R'' e => by injection e with e; exact (first_ne hfc).2 e) h3
    have p1 : oneF s 125 (0 + b0 + 1 + b1) = (false, 0 + b0 + 1 + b1 + 0) := p1
    rw [p1]
    simp only [Bool.false_eq_true, if_false]
    obtain ⟨j, hj, hs2⟩ := pl_at r q (s.size + 1) (0 + b0 + 1 + b1 + 0) [] hx (by omega) o2
    have h4 : Stands s j (sp 0 ++ 125 :: (sp b6 ++ R)) := hs2
    obtain ⟨q1, q2⟩ := one_yes (c := 125) (by decide) hR h4
    have q1 : oneF s 125 j = (true, j + 0 + 1 + b6) := q1
    refine ⟨_, ?_, q2⟩
    rw [hj, endF]
    simp only [if_true, List.nil_append]
    rw [q1]
/-- Parse of such a text: Set of its labels. -/
theorem parse_good {s : ByteArray} {b0 b1 b6 : Nat} {r : List Item} (hx : ∀ p ∈ r, nameB p.x.f0 = true) (hs : s.data.toList = blankT b0 b1 b6 r) : parseF s = ((setL (r.map (·.x))).1, ⟨(setL (r.map (·.x))).2, 0⟩) := by
  obtain ⟨j, h1, h2⟩ := parseR_at (R := []) hx noBl_nil (by rw [hs, List.append_nil])
  rw [parseF, h1]
  simp only
  rw [if_pos ⟨trivial, h2.over⟩]
/-- With something behind it that is no blank, it is refused there. -/
theorem parse_behind {s : ByteArray} {b0 b1 b6 : Nat} {r : List Item} {c : UInt8} {R : List UInt8} (hx : ∀ p ∈ r, nameB p.x.f0 = true) (hc : c ≠ 32) (hs : s.data.toList = blankT b0 b1 b6 r ++ c :: R) : parseF s = ([], ⟨134, ((blankT b0 b1 b6 r).length : Nat)⟩) := by
  obtain ⟨j, h1, h2⟩ := parseR_at (R := c :: R) hx (noBl_cons hc) hs
  obtain ⟨hj, _, _⟩ := h2.next
  have hl := h2.len
  have hl2 := data_length s
  rw [hs, List.length_append] at hl2
  rw [parseF, h1]
  simp only
  rw [if_neg (fun h => h.2 hj)]
  rw [show j = (blankT b0 b1 b6 r).length by omega]
end
end Go.Proofs.YtkanfffbdegfoaaGreatDoor.PD
