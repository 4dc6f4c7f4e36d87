/- The contract of label.Quote: what it tells, of every string, where package utf8's two tables lie as its text lays them, or the string is ASCII. -/
import Derived.Test.YtkanfffbdegfoaaGreatDoorKA
import Derived.Lib.RuneCountTail
import Derived.Lib.QuoteLoop
import Derived.Shelf.Unicode.DecodeSlow
namespace Go.Proofs.YtkanfffbdegfoaaGreatDoor.PD
set_option linter.unusedVariables false
set_option linter.unusedSimpArgs false
open Go.RowKit Go.Proofs.YtkanfffbdegfoaaGreatDoorW.PrintWords Go.Proofs.YtkanfffbdegfoaaGreatDoorW.PrintLast Go.Proofs.YtkanfffbdegfoaaGreatDoorW.PrintMore

/-- What label.Quote asks of the world: package utf8's tables, or an ASCII string. -/
def DecOk (s : ByteArray) (w : World) : Prop := Lib.Utf8Tabs 0 1 w ∨ ∀ (i : Nat) (h : i < s.size), s[i].toNat < 128
theorem DecOk.below {s : ByteArray} {w w' : World} (h : DecOk s w) (hb : Below w.heap.size w w') : DecOk s w' := h.imp (fun h => Utf8Tabs_below h hb) id

theorem decode_call (s : ByteArray) (i : Nat) (hi : i < s.size) (w : World) (h : DecOk s w) :
    Calls Tryz.prog 62 #[.string (s.extract i s.size)] w fun e w' => e = .returned (.tuple #[.int .i32 ((Utf8.decode s i).1 : Nat), .int .i64 ((Utf8.decode s i).2 : Nat)]) ∧ Below w.heap.size w w' := by
  have hsz : (s.extract i s.size).size = s.size - i := by simp
  rcases h with h | h
  · refine (Tryz.utf8_DecodeRuneInString _ w h).mono ?_
    rintro e w' ⟨rfl, hb⟩
    refine ⟨?_, hb⟩
    rw [Lib.decodeGo, if_neg (by omega), Lib.tail_decode]
    rfl
  · have h0 : (s.extract i s.size).data.toList[0]? = some s[i] := by
      rw [Lib.extract_data, List.getElem?_take_of_lt (by omega), List.getElem?_drop]
      have h' : i + 0 < s.data.toList.length := by rw [data_length]; exact hi
      rw [List.getElem?_eq_getElem h']
      rfl
    refine (Tryz.utf8_DecodeRuneInString_ascii _ s[i] w h0 (h i hi)).mono ?_
    rintro e w' ⟨rfl, rfl⟩
    refine ⟨?_, Below.refl _ _⟩
    rw [decode_ascii s i hi (h i hi)]
    rfl

def hexd (k : Nat) : UInt8 := [48, 49, 50, 51, 52, 53, 54, 55, 56, 57, 97, 98, 99, 100, 101, 102].getD k 0
/-- What stands in quotes for what stands at a place. -/
def qPiece (s : ByteArray) (i : Nat) (h : i < s.size) : List UInt8 :=
  if s[i].toNat = 34 ∨ s[i].toNat = 92 then [92, s[i]]
  else if s[i].toNat = 10 then [92, 110]
  else if s[i].toNat < 32 ∨ s[i].toNat = 127 ∨ ((Utf8.decode s i).1 = 65533 ∧ (Utf8.decode s i).2 = 1) then [92, 120, hexd (s[i].toNat / 16), hexd (s[i].toNat % 16)]
  else (s.extract i (i + (Utf8.decode s i).2)).data.toList
def quoteFrom (s : ByteArray) : Nat → Nat → List UInt8
  | 0, _ => []
  | b + 1, i => if h : i < s.size then qPiece s i h ++ quoteFrom s b (i + (Utf8.decode s i).2) else []
def quoteL (s : ByteArray) : List UInt8 := [34] ++ quoteFrom s (s.size + 1) 0 ++ [34]
theorem quote_over {s : ByteArray} {b i : Nat} (h : ¬ i < s.size) : quoteFrom s b i = [] := by
  cases b with
  | zero => rfl
  | succ b => rw [quoteFrom, dif_neg h]
theorem dec_le (s : ByteArray) (i : Nat) (h : i < s.size) : i + (Utf8.decode s i).2 ≤ s.size := by
  have := Lib.decodeN_width_le (s.size - i) (s.get! i).toNat (s.get! (i + 1)).toNat (s.get! (i + 2)).toNat (s.get! (i + 3)).toNat (by omega)
  rw [← Lib.decode_at] at this
  omega
theorem isB_below {T e B b : Nat} {bs : List Value} {w w' : World} (h : Lib.IsBuilder T e B b bs w) (hb : Below w.heap.size w w') : Lib.IsBuilder T e B b bs w' := by
  have key : ∀ p, Lib.BuilderAt T e B b p bs w → Lib.BuilderAt T e B b p bs w' := by
    intro p hp
    have hlt := hp.lt
    obtain ⟨hB, v, hbk, hown, hne⟩ := hp
    exact ⟨hB, v, (hb.block b hlt).trans hbk, pw_own_below hown hb, hne⟩
  exact h.imp (key _) (key _)
theorem hex_at : ∀ k : Fin 16, (⟨#[48, 49, 50, 51, 52, 53, 54, 55, 56, 57, 97, 98, 99, 100, 101, 102]⟩ : ByteArray)[k.val]'(by have := k.isLt; exact this) = hexd k.val := by decide
theorem quote_step {s : ByteArray} {b i : Nat} (h : i < s.size) : quoteFrom s (b + 1) i = qPiece s i h ++ quoteFrom s b (i + (Utf8.decode s i).2) := by
  rw [quoteFrom, dif_pos h]

set_option maxHeartbeats 40000000 in
set_option maxRecDepth 100000 in
theorem quote_any (s : ByteArray) (w : World) (hs : s.size ≤ 17592186044416) (hD : DecOk s w) :
    Calls Tryz.prog 12 #[.string s] w fun e w' => e = .returned (.string ⟨(quoteL s).toArray⟩) ∧ Below w.heap.size w w' := by
  generalize hR : quoteL s = R
  have HR := Lib.hid hR
  clear hR
  have HD := Lib.hid hD
  clear hD
  go_enter Tryz.func12, Tryz.ntmps12
  go_wp2_with fail
  have hb0 : Lib.IsBuilder 112 5 w.heap.size w.heap.size [] (w.alloc (.cells #[.pointer none, .slice none 0 0] 112)) := Or.inl ⟨Nat.le_refl _, .slice none 0 0, heap_alloc_new _ _, own_nil _ _ _ _, by simp [Value.ownBlock]⟩
  refine (WriteByte_calls _ _ _ _ _ hb0 (by simp) (by simp)).mono ?_
  rintro e w0 ⟨rfl, hbu0, hbw0⟩
  have hbw1 : Below w.heap.size w w0 := ((Below.refl _ w).alloc (Nat.le_refl _) _).trans hbw0
  clear hb0 hbw0
  go_wp2_with fail
  go_loopw [4] (fun v wr => ∃ (i b : Nat) (acc : List UInt8), v = .int .i64 i ∧ i ≤ s.size ∧ acc.length ≤ 4 * i + 1 ∧ s.size + 1 ≤ i + b ∧ Hid (acc ++ quoteFrom s b i ++ [34] = R) ∧ Lib.IsBuilder 112 5 w.heap.size w.heap.size (Lib.byteCells acc) wr ∧ Below w.heap.size w wr) (fun v _ => s.size + 1 - (intOf v).toNat)
  case atStart =>
    refine ⟨0, s.size + 1, [34], rfl, by omega, by simp, by omega, ?_, Or.inr hbu0, hbw1⟩
    exact HR
  case round =>
    obtain ⟨i, b, acc, rfl, hi, hacc, hib, hR, hbu, hbw⟩ := hrel
    have hsz : w.heap.size ≤ wr.heap.size := hbw.size
    have hHD : DecOk s wr := HD.out.below hbw
    by_cases hlt : i < s.size
    · obtain ⟨b, rfl⟩ : ∃ m, b = m + 1 := ⟨b - 1, by omega⟩
      have hc256 := s[i].toNat_lt
      have hq0 : 0 ≤ (s[i].toNat : Int) / 16 := by omega
      have hq1 : (s[i].toNat : Int) / 16 < 16 := by omega
      have hq2 : 0 ≤ (s[i].toNat : Int) % 16 := by omega
      have hq3 : (s[i].toNat : Int) % 16 < 16 := by omega
      have hwd := width_pos s i hlt
      have hle := dec_le s i hlt
      have hleI : (i : Int) + (Utf8.decode s i).2 ≤ s.size := by omega
      have hilI : (i : Int) ≤ (i : Int) + (Utf8.decode s i).2 := by omega
      have HHD := Lib.hid hHD
      clear hHD
      by_cases h34 : s[i].toNat = 34
      · have HQ := Lib.hid (show qPiece s i hlt = [92, s[i]] by rw [qPiece, if_pos (Or.inl h34)])
        have t34 : ((s[i].toNat : Int) == 34) = true := by simp [h34]
        clear h34
        go_wp2_with fail
        refine (decode_call s i hlt _ HHD.out).mono ?_
        rintro e w1 ⟨rfl, hd1⟩
        have hbu1 := isB_below hbu hd1
        have hsz1 : w.heap.size ≤ w1.heap.size := Nat.le_trans hsz hd1.size
        go_wp2_with fail
        refine (WriteByte_calls _ _ _ _ _ hbu1 (by rw [Lib.byteCells_length]; omega) hsz1).mono ?_
        rintro e w2 ⟨rfl, hbu2, hb2⟩
        go_wp2_with fail
        have e2 : Lib.byteCells acc ++ [Value.int .u8 92] = Lib.byteCells (acc ++ [92]) := by simp [Lib.byteCells]
        rw [e2] at hbu2
        refine (WriteByte_calls _ _ _ _ _ (Or.inr hbu2) (by rw [Lib.byteCells_length]; simp; omega) (Nat.le_trans hsz1 hb2.size)).mono ?_
        rintro e w3 ⟨rfl, hbu3, hb3⟩
        have e3 : Lib.byteCells (acc ++ [92]) ++ [Value.int .u8 s[i].toNat] = Lib.byteCells (acc ++ [92, s[i]]) := by simp [Lib.byteCells]
        rw [e3] at hbu3
        have hbelow := ((hbw.trans (hd1.mono hsz)).trans hb2).trans hb3
        clear e2 e3
        go_wp2
        go_roundw
        case rel =>
          refine ⟨i + (Utf8.decode s i).2, b, acc ++ [92, s[i]], by go_num, by omega, by simp; omega, by omega, ?_, ?_, hbelow⟩
          · rw [← hR.out, quote_step hlt, HQ.out]
            exact Lib.hid (by simp)
          · exact Or.inr hbu3
        case measure => simp [intOf]; omega
      · by_cases h92 : s[i].toNat = 92
        · have HQ := Lib.hid (show qPiece s i hlt = [92, s[i]] by rw [qPiece, if_pos (Or.inr h92)])
          have t34 : ((s[i].toNat : Int) == 34) = false := by simp; omega
          have t92 : ((s[i].toNat : Int) == 92) = true := by simp [h92]
          clear h34 h92
          go_wp2_with fail
          refine (decode_call s i hlt _ HHD.out).mono ?_
          rintro e w1 ⟨rfl, hd1⟩
          have hbu1 := isB_below hbu hd1
          have hsz1 : w.heap.size ≤ w1.heap.size := Nat.le_trans hsz hd1.size
          go_wp2_with fail
          refine (WriteByte_calls _ _ _ _ _ hbu1 (by rw [Lib.byteCells_length]; omega) hsz1).mono ?_
          rintro e w2 ⟨rfl, hbu2, hb2⟩
          go_wp2_with fail
          have e2 : Lib.byteCells acc ++ [Value.int .u8 92] = Lib.byteCells (acc ++ [92]) := by simp [Lib.byteCells]
          rw [e2] at hbu2
          refine (WriteByte_calls _ _ _ _ _ (Or.inr hbu2) (by rw [Lib.byteCells_length]; simp; omega) (Nat.le_trans hsz1 hb2.size)).mono ?_
          rintro e w3 ⟨rfl, hbu3, hb3⟩
          have e3 : Lib.byteCells (acc ++ [92]) ++ [Value.int .u8 s[i].toNat] = Lib.byteCells (acc ++ [92, s[i]]) := by simp [Lib.byteCells]
          rw [e3] at hbu3
          have hbelow := ((hbw.trans (hd1.mono hsz)).trans hb2).trans hb3
          clear e2 e3
          go_wp2
          go_roundw
          case rel =>
            refine ⟨i + (Utf8.decode s i).2, b, acc ++ [92, s[i]], by go_num, by omega, by simp; omega, by omega, ?_, ?_, hbelow⟩
            · rw [← hR.out, quote_step hlt, HQ.out]
              exact Lib.hid (by simp)
            · exact Or.inr hbu3
          case measure => simp [intOf]; omega
        · have t34 : ((s[i].toNat : Int) == 34) = false := by simp; omega
          have t92 : ((s[i].toNat : Int) == 92) = false := by simp; omega
          have hn1 : ¬ (s[i].toNat = 34 ∨ s[i].toNat = 92) := by omega
          clear h34 h92
          by_cases h10 : s[i].toNat = 10
          · have HQ := Lib.hid (show qPiece s i hlt = [92, 110] by rw [qPiece, if_neg hn1, if_pos h10])
            have t10 : ((s[i].toNat : Int) == 10) = true := by simp [h10]
            clear h10 hn1
            go_wp2_with fail
            refine (decode_call s i hlt _ HHD.out).mono ?_
            rintro e w1 ⟨rfl, hd1⟩
            have hbu1 := isB_below hbu hd1
            have hsz1 : w.heap.size ≤ w1.heap.size := Nat.le_trans hsz hd1.size
            go_wp2_with fail
            refine (WriteString_calls _ _ _ _ _ hbu1 (by rw [Lib.byteCells_length]; show _ + 2 ≤ _; omega) hsz1).mono ?_
            rintro e w2 ⟨rfl, hbu2, hb2⟩
            have e2 : Lib.byteCells acc ++ Lib.strCells ⟨#[92, 110]⟩ = Lib.byteCells (acc ++ [92, 110]) := by simp [Lib.byteCells, Lib.strCells]
            rw [e2] at hbu2
            have hbelow := (hbw.trans (hd1.mono hsz)).trans hb2
            clear e2
            go_wp2
            go_roundw
            case rel =>
              refine ⟨i + (Utf8.decode s i).2, b, acc ++ [92, 110], by go_num, by omega, by simp; omega, by omega, ?_, ?_, hbelow⟩
              · rw [← hR.out, quote_step hlt, HQ.out]
                exact Lib.hid (by simp)
              · exact Or.inr hbu2
            case measure => simp [intOf]; omega
          · have t10 : ((s[i].toNat : Int) == 10) = false := by simp; omega
            by_cases hx : s[i].toNat < 32 ∨ s[i].toNat = 127 ∨ ((Utf8.decode s i).1 = 65533 ∧ (Utf8.decode s i).2 = 1)
            · have HQ := Lib.hid (show qPiece s i hlt = [92, 120, hexd (s[i].toNat / 16), hexd (s[i].toNat % 16)] by rw [qPiece, if_neg hn1, if_neg h10, if_pos hx])
              clear h10 hn1
              by_cases hl : (s[i].toNat : Int) < 32
              · clear hx
                go_wp2_with fail
                refine (decode_call s i hlt _ HHD.out).mono ?_
                rintro e w1 ⟨rfl, hd1⟩
                have hbu1 := isB_below hbu hd1
                have hsz1 : w.heap.size ≤ w1.heap.size := Nat.le_trans hsz hd1.size
                go_wp2_with fail
                refine (WriteString_calls _ _ _ _ _ hbu1 (by rw [Lib.byteCells_length]; show _ + 2 ≤ _; omega) hsz1).mono ?_
                rintro e w2 ⟨rfl, hbu2, hb2⟩
                have e2 : Lib.byteCells acc ++ Lib.strCells ⟨#[92, 120]⟩ = Lib.byteCells (acc ++ [92, 120]) := by simp [Lib.byteCells, Lib.strCells]
                rw [e2] at hbu2
                clear e2
                go_wp2_with fail
                refine (WriteByte_calls _ _ _ _ _ (Or.inr hbu2) (by rw [Lib.byteCells_length]; simp; omega) (Nat.le_trans hsz1 hb2.size)).mono ?_
                rintro e w3 ⟨rfl, hbu3, hb3⟩
                have e3 : Lib.byteCells (acc ++ [92, 120]) ++ [Value.int .u8 ((⟨#[48, 49, 50, 51, 52, 53, 54, 55, 56, 57, 97, 98, 99, 100, 101, 102]⟩ : ByteArray)[s[i].toNat / 16]'(by show s[i].toNat / 16 < 16; omega)).toNat] = Lib.byteCells (acc ++ [92, 120, hexd (s[i].toNat / 16)]) := by
                  rw [hex_at ⟨s[i].toNat / 16, by omega⟩]
                  simp [Lib.byteCells]
                rw [e3] at hbu3
                clear e3
                go_wp2_with fail
                refine (WriteByte_calls _ _ _ _ _ (Or.inr hbu3) (by rw [Lib.byteCells_length]; simp; omega) (Nat.le_trans hsz1 (Nat.le_trans hb2.size hb3.size))).mono ?_
                rintro e w4 ⟨rfl, hbu4, hb4⟩
                have e4 : Lib.byteCells (acc ++ [92, 120, hexd (s[i].toNat / 16)]) ++ [Value.int .u8 ((⟨#[48, 49, 50, 51, 52, 53, 54, 55, 56, 57, 97, 98, 99, 100, 101, 102]⟩ : ByteArray)[s[i].toNat % 16]'(by show s[i].toNat % 16 < 16; omega)).toNat] = Lib.byteCells (acc ++ [92, 120, hexd (s[i].toNat / 16), hexd (s[i].toNat % 16)]) := by
                  rw [hex_at ⟨s[i].toNat % 16, by omega⟩]
                  simp [Lib.byteCells]
                rw [e4] at hbu4
                clear e4
                have hbelow := (((hbw.trans (hd1.mono hsz)).trans hb2).trans hb3).trans hb4
                go_wp2
                go_roundw
                case rel =>
                  refine ⟨i + (Utf8.decode s i).2, b, acc ++ [92, 120, hexd (s[i].toNat / 16), hexd (s[i].toNat % 16)], by go_num, by omega, by simp; omega, by omega, ?_, ?_, hbelow⟩
                  · rw [← hR.out, quote_step hlt, HQ.out]
                    exact Lib.hid (by simp)
                  · exact Or.inr hbu4
                case measure => simp [intOf]; omega
              · by_cases h127 : s[i].toNat = 127
                · have t127 : ((s[i].toNat : Int) == 127) = true := by simp [h127]
                  clear hx h127
                  go_wp2_with fail
                  refine (decode_call s i hlt _ HHD.out).mono ?_
                  rintro e w1 ⟨rfl, hd1⟩
                  have hbu1 := isB_below hbu hd1
                  have hsz1 : w.heap.size ≤ w1.heap.size := Nat.le_trans hsz hd1.size
                  go_wp2_with fail
                  refine (WriteString_calls _ _ _ _ _ hbu1 (by rw [Lib.byteCells_length]; show _ + 2 ≤ _; omega) hsz1).mono ?_
                  rintro e w2 ⟨rfl, hbu2, hb2⟩
                  have e2 : Lib.byteCells acc ++ Lib.strCells ⟨#[92, 120]⟩ = Lib.byteCells (acc ++ [92, 120]) := by simp [Lib.byteCells, Lib.strCells]
                  rw [e2] at hbu2
                  clear e2
                  go_wp2_with fail
                  refine (WriteByte_calls _ _ _ _ _ (Or.inr hbu2) (by rw [Lib.byteCells_length]; simp; omega) (Nat.le_trans hsz1 hb2.size)).mono ?_
                  rintro e w3 ⟨rfl, hbu3, hb3⟩
                  have e3 : Lib.byteCells (acc ++ [92, 120]) ++ [Value.int .u8 ((⟨#[48, 49, 50, 51, 52, 53, 54, 55, 56, 57, 97, 98, 99, 100, 101, 102]⟩ : ByteArray)[s[i].toNat / 16]'(by show s[i].toNat / 16 < 16; omega)).toNat] = Lib.byteCells (acc ++ [92, 120, hexd (s[i].toNat / 16)]) := by
                    rw [hex_at ⟨s[i].toNat / 16, by omega⟩]
                    simp [Lib.byteCells]
                  rw [e3] at hbu3
                  clear e3
                  go_wp2_with fail
                  refine (WriteByte_calls _ _ _ _ _ (Or.inr hbu3) (by rw [Lib.byteCells_length]; simp; omega) (Nat.le_trans hsz1 (Nat.le_trans hb2.size hb3.size))).mono ?_
                  rintro e w4 ⟨rfl, hbu4, hb4⟩
                  have e4 : Lib.byteCells (acc ++ [92, 120, hexd (s[i].toNat / 16)]) ++ [Value.int .u8 ((⟨#[48, 49, 50, 51, 52, 53, 54, 55, 56, 57, 97, 98, 99, 100, 101, 102]⟩ : ByteArray)[s[i].toNat % 16]'(by show s[i].toNat % 16 < 16; omega)).toNat] = Lib.byteCells (acc ++ [92, 120, hexd (s[i].toNat / 16), hexd (s[i].toNat % 16)]) := by
                    rw [hex_at ⟨s[i].toNat % 16, by omega⟩]
                    simp [Lib.byteCells]
                  rw [e4] at hbu4
                  clear e4
                  have hbelow := (((hbw.trans (hd1.mono hsz)).trans hb2).trans hb3).trans hb4
                  go_wp2
                  go_roundw
                  case rel =>
                    refine ⟨i + (Utf8.decode s i).2, b, acc ++ [92, 120, hexd (s[i].toNat / 16), hexd (s[i].toNat % 16)], by go_num, by omega, by simp; omega, by omega, ?_, ?_, hbelow⟩
                    · rw [← hR.out, quote_step hlt, HQ.out]
                      exact Lib.hid (by simp)
                    · exact Or.inr hbu4
                  case measure => simp [intOf]; omega
                · have t127 : ((s[i].toNat : Int) == 127) = false := by simp; omega
                  have hdr : (Utf8.decode s i).1 = 65533 ∧ (Utf8.decode s i).2 = 1 := by omega
                  have tr : (((Utf8.decode s i).1 : Int) == 65533) = true := by simp [hdr.1]
                  have tn : (((Utf8.decode s i).2 : Int) == 1) = true := by simp [hdr.2]
                  clear hx h127 hdr
                  go_wp2_with fail
                  refine (decode_call s i hlt _ HHD.out).mono ?_
                  rintro e w1 ⟨rfl, hd1⟩
                  have hbu1 := isB_below hbu hd1
                  have hsz1 : w.heap.size ≤ w1.heap.size := Nat.le_trans hsz hd1.size
                  go_wp2_with fail
                  refine (WriteString_calls _ _ _ _ _ hbu1 (by rw [Lib.byteCells_length]; show _ + 2 ≤ _; omega) hsz1).mono ?_
                  rintro e w2 ⟨rfl, hbu2, hb2⟩
                  have e2 : Lib.byteCells acc ++ Lib.strCells ⟨#[92, 120]⟩ = Lib.byteCells (acc ++ [92, 120]) := by simp [Lib.byteCells, Lib.strCells]
                  rw [e2] at hbu2
                  clear e2
                  go_wp2_with fail
                  refine (WriteByte_calls _ _ _ _ _ (Or.inr hbu2) (by rw [Lib.byteCells_length]; simp; omega) (Nat.le_trans hsz1 hb2.size)).mono ?_
                  rintro e w3 ⟨rfl, hbu3, hb3⟩
                  have e3 : Lib.byteCells (acc ++ [92, 120]) ++ [Value.int .u8 ((⟨#[48, 49, 50, 51, 52, 53, 54, 55, 56, 57, 97, 98, 99, 100, 101, 102]⟩ : ByteArray)[s[i].toNat / 16]'(by show s[i].toNat / 16 < 16; omega)).toNat] = Lib.byteCells (acc ++ [92, 120, hexd (s[i].toNat / 16)]) := by
                    rw [hex_at ⟨s[i].toNat / 16, by omega⟩]
                    simp [Lib.byteCells]
                  rw [e3] at hbu3
                  clear e3
                  go_wp2_with fail
                  refine (WriteByte_calls _ _ _ _ _ (Or.inr hbu3) (by rw [Lib.byteCells_length]; simp; omega) (Nat.le_trans hsz1 (Nat.le_trans hb2.size hb3.size))).mono ?_
                  rintro e w4 ⟨rfl, hbu4, hb4⟩
                  have e4 : Lib.byteCells (acc ++ [92, 120, hexd (s[i].toNat / 16)]) ++ [Value.int .u8 ((⟨#[48, 49, 50, 51, 52, 53, 54, 55, 56, 57, 97, 98, 99, 100, 101, 102]⟩ : ByteArray)[s[i].toNat % 16]'(by show s[i].toNat % 16 < 16; omega)).toNat] = Lib.byteCells (acc ++ [92, 120, hexd (s[i].toNat / 16), hexd (s[i].toNat % 16)]) := by
                    rw [hex_at ⟨s[i].toNat % 16, by omega⟩]
                    simp [Lib.byteCells]
                  rw [e4] at hbu4
                  clear e4
                  have hbelow := (((hbw.trans (hd1.mono hsz)).trans hb2).trans hb3).trans hb4
                  go_wp2
                  go_roundw
                  case rel =>
                    refine ⟨i + (Utf8.decode s i).2, b, acc ++ [92, 120, hexd (s[i].toNat / 16), hexd (s[i].toNat % 16)], by go_num, by omega, by simp; omega, by omega, ?_, ?_, hbelow⟩
                    · rw [← hR.out, quote_step hlt, HQ.out]
                      exact Lib.hid (by simp)
                    · exact Or.inr hbu4
                  case measure => simp [intOf]; omega
            · have HQ := Lib.hid (show qPiece s i hlt = (s.extract i (i + (Utf8.decode s i).2)).data.toList by rw [qPiece, if_neg hn1, if_neg h10, if_neg hx])
              have hl : ¬ (s[i].toNat : Int) < 32 := by omega
              have t127 : ((s[i].toNat : Int) == 127) = false := by simp; omega
              clear h10 hn1
              by_cases hr : (Utf8.decode s i).1 = 65533
              · have tr : (((Utf8.decode s i).1 : Int) == 65533) = true := by simp [hr]
                have tn : (((Utf8.decode s i).2 : Int) == 1) = false := by simp; omega
                clear hx hr
                go_wp2_with fail
                refine (decode_call s i hlt _ HHD.out).mono ?_
                rintro e w1 ⟨rfl, hd1⟩
                have hbu1 := isB_below hbu hd1
                have hsz1 : w.heap.size ≤ w1.heap.size := Nat.le_trans hsz hd1.size
                go_wp2_with fail
                have hszx : (s.extract i (i + (Utf8.decode s i).2)).size = (Utf8.decode s i).2 := by simp; omega
                have HSZ := Lib.hid hszx
                clear hszx
                refine (WriteString_calls _ _ _ _ _ hbu1 (by rw [Lib.byteCells_length, HSZ.out]; omega) hsz1).mono ?_
                rintro e w2 ⟨rfl, hbu2, hb2⟩
                have e2 : Lib.byteCells acc ++ Lib.strCells (s.extract i (i + (Utf8.decode s i).2)) = Lib.byteCells (acc ++ (s.extract i (i + (Utf8.decode s i).2)).data.toList) := by simp [Lib.byteCells, Lib.strCells]
                rw [e2] at hbu2
                have hbelow := (hbw.trans (hd1.mono hsz)).trans hb2
                clear e2
                go_wp2
                go_roundw
                case rel =>
                  refine ⟨i + (Utf8.decode s i).2, b, acc ++ (s.extract i (i + (Utf8.decode s i).2)).data.toList, by go_num, by omega, by rw [List.length_append, data_length, HSZ.out]; omega, by omega, ?_, ?_, hbelow⟩
                  · rw [← hR.out, quote_step hlt, HQ.out]
                    exact Lib.hid (by simp)
                  · exact Or.inr hbu2
                case measure => simp [intOf]; omega
              · have tr : (((Utf8.decode s i).1 : Int) == 65533) = false := by simp; omega
                clear hx hr
                go_wp2_with fail
                refine (decode_call s i hlt _ HHD.out).mono ?_
                rintro e w1 ⟨rfl, hd1⟩
                have hbu1 := isB_below hbu hd1
                have hsz1 : w.heap.size ≤ w1.heap.size := Nat.le_trans hsz hd1.size
                go_wp2_with fail
                have hszx : (s.extract i (i + (Utf8.decode s i).2)).size = (Utf8.decode s i).2 := by simp; omega
                have HSZ := Lib.hid hszx
                clear hszx
                refine (WriteString_calls _ _ _ _ _ hbu1 (by rw [Lib.byteCells_length, HSZ.out]; omega) hsz1).mono ?_
                rintro e w2 ⟨rfl, hbu2, hb2⟩
                have e2 : Lib.byteCells acc ++ Lib.strCells (s.extract i (i + (Utf8.decode s i).2)) = Lib.byteCells (acc ++ (s.extract i (i + (Utf8.decode s i).2)).data.toList) := by simp [Lib.byteCells, Lib.strCells]
                rw [e2] at hbu2
                have hbelow := (hbw.trans (hd1.mono hsz)).trans hb2
                clear e2
                go_wp2
                go_roundw
                case rel =>
                  refine ⟨i + (Utf8.decode s i).2, b, acc ++ (s.extract i (i + (Utf8.decode s i).2)).data.toList, by go_num, by omega, by rw [List.length_append, data_length, HSZ.out]; omega, by omega, ?_, ?_, hbelow⟩
                  · rw [← hR.out, quote_step hlt, HQ.out]
                    exact Lib.hid (by simp)
                  · exact Or.inr hbu2
                case measure => simp [intOf]; omega
    · go_wp2_with fail
      refine (WriteByte_calls _ _ _ _ _ hbu (by rw [Lib.byteCells_length]; omega) hsz).mono ?_
      rintro e w1 ⟨rfl, hbu1, hb1⟩
      go_wp2_with fail
      have e1 : Lib.byteCells acc ++ [Value.int .u8 34] = Lib.byteCells (acc ++ [34]) := by simp [Lib.byteCells]
      refine (Tryz.Builder_String_any _ _ (acc ++ [34]) _ (by rw [e1] at hbu1; exact Or.inr hbu1) (Nat.le_trans hsz hb1.size)).mono ?_
      rintro e w2 ⟨rfl, hb2⟩
      go_wp2
      go_ret
      refine ⟨?_, (hbw.trans hb1).trans hb2⟩
      rw [← hR.out, quote_over hlt, List.append_nil]
      rfl
end Go.Proofs.YtkanfffbdegfoaaGreatDoor.PD
