/- fathomlaw13.LabelEscapes: it returns true; what was there is as it was. No condition but the environment's (the tables). -/
import Derived.Test.YtkanfffbdegfoaaDoorKU
import Derived.Test.YtkanfffbdegfoaaDoorKS
namespace Go.Proofs.YtkanfffbdegfoaaDoor.PD
set_option linter.unusedVariables false
set_option linter.unusedSimpArgs false
open Go.RowKit Go.Proofs.YtkanfffbdegfoaaDoorW.PrintWords Go.Proofs.YtkanfffbdegfoaaDoorW.PrintLast Go.Proofs.YtkanfffbdegfoaaDoorW.PrintMore

def b1 (c : Nat) : ByteArray := strOfNums [(c : Int)]
def plainN (c : Nat) : Bool := decide (32 ≤ c) && (c != 127) && (c != 34) && (c != 92)
def hexI (c : Nat) : Nat := if 48 ≤ c ∧ c ≤ 57 then c - 48 else if 97 ≤ c ∧ c ≤ 102 then c - 87 else if 65 ≤ c ∧ c ≤ 70 then c - 55 else 0
def hexO (c : Nat) : Bool := decide (48 ≤ c ∧ c ≤ 57) || decide (97 ≤ c ∧ c ≤ 102) || decide (65 ≤ c ∧ c ≤ 70)
def readsV (s want : ByteArray) (ok : Bool) : Bool := if ok then (unqAll s).2.2 == 0 && ((unqAll s).1.data.toList == want.data.toList) && ((unqAll s).2.1 == (s.size : Int)) else (unqAll s).2.2 == 134 && ((unqAll s).1.data.toList == []) && ((unqAll s).2.1 == 0)
def behindN (c : Nat) : ByteArray := if c = 110 then ⟨#[10]⟩ else b1 c
theorem e1 : ∀ c : Fin 256, (c.val == 34 || readsV ((⟨#[34]⟩ : ByteArray) ++ b1 c.val ++ (⟨#[34]⟩ : ByteArray)) (b1 c.val) (plainN c.val)) = true := by decide +kernel
theorem e2 : ∀ c : Fin 256, (c.val == 34 || readsV ((⟨#[34, 92]⟩ : ByteArray) ++ b1 c.val ++ (⟨#[34]⟩ : ByteArray)) (behindN c.val) (c.val == 110 || c.val == 34 || c.val == 92)) = true := by decide +kernel
theorem e3 : ∀ c : Fin 256, readsV ((⟨#[34, 92, 120]⟩ : ByteArray) ++ b1 c.val ++ (⟨#[53, 34]⟩ : ByteArray)) (b1 (16 * hexI c.val + 5)) (hexO c.val) = true := by decide +kernel
theorem e4 : ∀ c : Fin 256, readsV ((⟨#[34, 92, 120, 53]⟩ : ByteArray) ++ b1 c.val ++ (⟨#[34]⟩ : ByteArray)) (b1 (80 + hexI c.val)) (hexO c.val) = true := by decide +kernel
def lowD : ByteArray := ⟨#[48, 49, 50, 51, 52, 53, 54, 55, 56, 57, 97, 98, 99, 100, 101, 102]⟩
def wantN (c : Nat) : ByteArray :=
  if c = 10 then ⟨#[34, 92, 110, 34]⟩ else if c = 34 ∨ c = 92 then (⟨#[34, 92]⟩ : ByteArray) ++ b1 c ++ (⟨#[34]⟩ : ByteArray) else if 32 ≤ c ∧ c < 127 then (⟨#[34]⟩ : ByteArray) ++ b1 c ++ (⟨#[34]⟩ : ByteArray)
  else (⟨#[34, 92, 120]⟩ : ByteArray) ++ lowD.extract (c / 16) (c / 16 + 1) ++ lowD.extract (c % 16) (c % 16 + 1) ++ (⟨#[34]⟩ : ByteArray)
theorem e5 : ∀ c : Fin 256, quoteL (b1 c.val) = (wantN c.val).data.toList := by decide +kernel
theorem e6 : ∀ c : Fin 256, (b1 c.val).size = 1 := by decide +kernel

theorem ret_two {a b : Int} {x y : Bool} (h : a = b) (h2 : x = y) : Ending.returned (.tuple #[.int .i64 a, .bool x]) = .returned (.tuple #[.int .i64 b, .bool y]) := by rw [h, h2]
set_option maxHeartbeats 2000000 in
theorem hex_calls (c : Nat) (w : World) (hc : c < 256) : Calls Tryd.prog 21 #[.int .i64 c] w fun e w' => e = .returned (.tuple #[.int .i64 (hexI c : Nat), .bool (hexO c)]) ∧ w' = w := by
  generalize hi : hexI c = I
  generalize ho : hexO c = O
  have HI := Lib.hid hi
  have HO := Lib.hid ho
  clear hi ho
  by_cases h1 : (c : Int) ≥ 48
  · by_cases h2 : (c : Int) ≤ 57
    · go_enter Tryd.func21, Tryd.ntmps21
      go_wp2
      go_ret2
      exact ⟨ret_two (by rw [← HI.out, hexI, if_pos (by omega)]; omega) (by rw [← HO.out, hexO, decide_eq_true (show 48 ≤ c ∧ c ≤ 57 by omega)]; rfl), rfl⟩
    · by_cases h3 : (c : Int) ≥ 97
      · by_cases h4 : (c : Int) ≤ 102
        · go_enter Tryd.func21, Tryd.ntmps21
          go_wp2
          go_ret2
          exact ⟨ret_two (by rw [← HI.out, hexI, if_neg (by omega), if_pos (by omega)]; omega) (by rw [← HO.out, hexO, decide_eq_false (show ¬ (48 ≤ c ∧ c ≤ 57) by omega), decide_eq_true (show 97 ≤ c ∧ c ≤ 102 by omega)]; rfl), rfl⟩
        · have h5 : (c : Int) ≥ 65 := by omega
          have h6 : ¬ (c : Int) ≤ 70 := by omega
          go_enter Tryd.func21, Tryd.ntmps21
          go_wp2
          go_ret2
          exact ⟨ret_two (by rw [← HI.out, hexI, if_neg (by omega), if_neg (by omega), if_neg (by omega)]; rfl) (by rw [← HO.out, hexO, decide_eq_false (show ¬ (48 ≤ c ∧ c ≤ 57) by omega), decide_eq_false (show ¬ (97 ≤ c ∧ c ≤ 102) by omega), decide_eq_false (show ¬ (65 ≤ c ∧ c ≤ 70) by omega)]; rfl), rfl⟩
      · by_cases h5 : (c : Int) ≥ 65
        · by_cases h6 : (c : Int) ≤ 70
          · go_enter Tryd.func21, Tryd.ntmps21
            go_wp2
            go_ret2
            exact ⟨ret_two (by rw [← HI.out, hexI, if_neg (by omega), if_neg (by omega), if_pos (by omega)]; omega) (by rw [← HO.out, hexO, decide_eq_false (show ¬ (48 ≤ c ∧ c ≤ 57) by omega), decide_eq_false (show ¬ (97 ≤ c ∧ c ≤ 102) by omega), decide_eq_true (show 65 ≤ c ∧ c ≤ 70 by omega)]; rfl), rfl⟩
          · go_enter Tryd.func21, Tryd.ntmps21
            go_wp2
            go_ret2
            exact ⟨ret_two (by rw [← HI.out, hexI, if_neg (by omega), if_neg (by omega), if_neg (by omega)]; rfl) (by rw [← HO.out, hexO, decide_eq_false (show ¬ (48 ≤ c ∧ c ≤ 57) by omega), decide_eq_false (show ¬ (97 ≤ c ∧ c ≤ 102) by omega), decide_eq_false (show ¬ (65 ≤ c ∧ c ≤ 70) by omega)]; rfl), rfl⟩
        · go_enter Tryd.func21, Tryd.ntmps21
          go_wp2
          go_ret2
          exact ⟨ret_two (by rw [← HI.out, hexI, if_neg (by omega), if_neg (by omega), if_neg (by omega)]; rfl) (by rw [← HO.out, hexO, decide_eq_false (show ¬ (48 ≤ c ∧ c ≤ 57) by omega), decide_eq_false (show ¬ (97 ≤ c ∧ c ≤ 102) by omega), decide_eq_false (show ¬ (65 ≤ c ∧ c ≤ 70) by omega)]; rfl), rfl⟩
  · have h3 : ¬ (c : Int) ≥ 97 := by omega
    have h5 : ¬ (c : Int) ≥ 65 := by omega
    go_enter Tryd.func21, Tryd.ntmps21
    go_wp2
    go_ret2
    exact ⟨ret_two (by rw [← HI.out, hexI, if_neg (by omega), if_neg (by omega), if_neg (by omega)]; rfl) (by rw [← HO.out, hexO, decide_eq_false (show ¬ (48 ≤ c ∧ c ≤ 57) by omega), decide_eq_false (show ¬ (97 ≤ c ∧ c ≤ 102) by omega), decide_eq_false (show ¬ (65 ≤ c ∧ c ≤ 70) by omega)]; rfl), rfl⟩
set_option maxHeartbeats 2000000 in
theorem reads_calls (s want : ByteArray) (ok : Bool) (w : World) (hs : s.size ≤ 140737488351232) (h : readsV s want ok = true) : Calls Tryd.prog 22 #[.string s, .string want, .bool ok] w fun e w' => e = .returned (.bool true) ∧ Below w.heap.size w w' := by
  have U := unquote_any s w hs
  cases ok
  · rw [readsV, if_neg (by decide), Bool.and_eq_true, Bool.and_eq_true, beq_iff_eq, beq_iff_eq, beq_iff_eq] at h
    have e0 : unqAll s = (⟨#[]⟩, 0, 134) := by
      have h1 : (unqAll s).1 = ⟨#[]⟩ := ba_ext h.1.2
      exact Prod.ext h1 (Prod.ext h.2 h.1.1)
    rw [e0] at U
    have HU := Lib.hid U
    clear U e0 h
    go_enter Tryd.func22, Tryd.ntmps22
    go_wp2_with fail
    refine HU.out.mono ?_
    rintro e w1 ⟨rfl, hb1⟩
    go_wp2_with (go_at_call 12; (with_reducible refine (num_calls _ _).mono ?_); rintro en wx ⟨rfl, hwx⟩; subst wx)
    go_ret
    exact ⟨rfl, hb1⟩
  · rw [readsV, if_pos rfl, Bool.and_eq_true, Bool.and_eq_true, beq_iff_eq, beq_iff_eq, beq_iff_eq] at h
    have e0 : unqAll s = (want, (s.size : Int), 0) := by
      have h1 : (unqAll s).1 = want := ba_ext h.1.2
      exact Prod.ext h1 (Prod.ext h.2 h.1.1)
    rw [e0] at U
    have HU := Lib.hid U
    clear U e0 h
    go_enter Tryd.func22, Tryd.ntmps22
    go_wp2_with fail
    refine HU.out.mono ?_
    rintro e w1 ⟨rfl, hb1⟩
    go_wp2_with (go_at_call 12; (with_reducible refine (num_calls _ _).mono ?_); rintro en wx ⟨rfl, hwx⟩; subst wx)
    go_ret
    exact ⟨rfl, hb1⟩
theorem byte_own (W : World) (x : Int) : (convert 53 9 (.slice (some ⟨W.heap.size, 0, none⟩) 1 1)).run Tryd.prog (W.alloc (.cells #[.int .u8 x] 5)) = .ok (.string (strOfNums [x])) (W.alloc (.cells #[.int .u8 x] 5)) :=
  own_string (base := W.heap.size) (n := 1) Tryd.underlying53 Tryd.underlying5 Tryd.underlying9 (e' := 5) ⟨rfl, .inr ⟨W.heap.size, 1, #[.int .u8 x], rfl, Nat.le_refl _, heap_alloc_new _ _, Nat.le_refl _, by decide, rfl, rfl⟩⟩

def endsL : List ByteArray := [⟨#[]⟩, ⟨#[34]⟩, ⟨#[34, 97]⟩, ⟨#[34, 92]⟩, ⟨#[34, 92, 120]⟩, ⟨#[34, 92, 120, 52]⟩, ⟨#[34, 92, 120, 52, 34]⟩, ⟨#[34, 92, 120, 34]⟩, ⟨#[34, 92, 120, 52, 49]⟩, ⟨#[97, 34, 34]⟩, ⟨#[32, 34, 34]⟩]
theorem ends_ok : ∀ i (h : i < endsL.length), readsV endsL[i] ⟨#[]⟩ false = true ∧ endsL[i].size ≤ 100 := by
  have h : (endsL.all fun s => readsV s ⟨#[]⟩ false && decide (s.size ≤ 100)) = true := by kernel_rfl
  intro i hi
  have := List.all_eq_true.1 h _ (List.getElem_mem hi)
  rw [Bool.and_eq_true, decide_eq_true_iff] at this
  exact this
theorem low_slice (s : ByteArray) (a b : Nat) (h : a ≤ b) (hb : b ≤ s.size) (W : World) : (Instr.slice 9 (.string s) (some (.int .i64 (a : Int))) (some (.int .i64 (b : Int))) none).run Tryd.prog W = .ok (.string (s.extract a b)) W := by
  have h1 : (0 : Int) ≤ (a : Int) := by omega
  have h2 : (a : Int) ≤ (b : Int) := by omega
  have h3 : (b : Int) ≤ (s.size : Int) := by omega
  go_simp
theorem calls_reads {s want : ByteArray} {ok : Bool} (hs : s.size ≤ 100) (h : readsV s want ok = true) (W : World) : Calls Tryd.prog 22 #[.string s, .string want, .bool ok] W fun e w' => e = .returned (.bool true) ∧ Below W.heap.size W w' := reads_calls s want ok W (by omega) h
set_option maxHeartbeats 3000000 in
set_option maxRecDepth 100000 in
theorem labelEscapes_walk (w : World) (hE : WE w) :
    Calls Tryd.prog 6 #[] w fun e w' => e = .returned (.bool true) ∧ Below w.heap.size w w' := by
  have HE := Lib.hid hE
  clear hE
  go_enter Tryd.func6, Tryd.ntmps6
  go_wp2_with fail
  go_loopw [1] (fun v1 wr => ∃ c : Nat, v1 = .int .i64 c ∧ c ≤ 256 ∧ Below w.heap.size w wr) (fun v _ => 256 - (intOf v).toNat)
  case atStart => exact ⟨0, rfl, by omega, Below.refl _ _⟩
  case round =>
    obtain ⟨c, rfl, hc, hbw⟩ := hrel
    by_cases hlt : c < 256
    · have E1 := e1 ⟨c, hlt⟩
      have E2 := e2 ⟨c, hlt⟩
      have E3 := e3 ⟨c, hlt⟩
      have E4 := e4 ⟨c, hlt⟩
      have E5 := e5 ⟨c, hlt⟩
      have E6 := e6 ⟨c, hlt⟩
      simp only at E1 E2 E3 E4 E5 E6
      have HX := Lib.hid (fun W => hex_calls c W hlt)
      have hd : hexI c ≤ 15 := by unfold hexI; split; omega; split; omega; split <;> omega
      have e16 : b1 (16 * hexI c + 5) = strOfNums [16 * (hexI c : Int) + 5] := by rw [b1]; congr 2
      have e80 : b1 (80 + hexI c) = strOfNums [80 + (hexI c : Int)] := by rw [b1]; congr 2
      rw [e16] at E3
      rw [e80] at E4
      have hw1 : IntKind.u8.wrap (c : Int) = (c : Int) := by rw [IntKind.wrap_u8]; omega
      have hw2 : IntKind.u8.wrap (16 * (hexI c : Int) + 5) = 16 * (hexI c : Int) + 5 := by rw [IntKind.wrap_u8]; omega
      have hw3 : IntKind.u8.wrap (80 + (hexI c : Int)) = 80 + (hexI c : Int) := by rw [IntKind.wrap_u8]; omega
      have hb1 : strOfNums [(c : Int)] = b1 c := rfl
      generalize b1 c = s at *
      have BO := byte_own
      by_cases kA : c = 10
      · have q34 : (((c : Nat) : Int) == 34) = false := by simp; omega
        have r34 : (((c : Nat) : Int) != 34) = true := by simp; omega
        have s34 : (c == 34) = false := by simp; omega
        have q92 : (((c : Nat) : Int) == 92) = false := by simp; omega
        have r92 : (((c : Nat) : Int) != 92) = true := by simp; omega
        have s92 : (c == 92) = false := by simp; omega
        have q110 : (((c : Nat) : Int) == 110) = false := by simp; omega
        have r110 : (((c : Nat) : Int) != 110) = true := by simp; omega
        have s110 : (c == 110) = false := by simp; omega
        have q127 : (((c : Nat) : Int) == 127) = false := by simp; omega
        have r127 : (((c : Nat) : Int) != 127) = true := by simp; omega
        have s127 : (c == 127) = false := by simp; omega
        have q10 : (((c : Nat) : Int) == 10) = true := by simp; omega
        have r10 : (((c : Nat) : Int) != 10) = false := by simp; omega
        have s10 : (c == 10) = true := by simp; omega
        have qge : ¬ (32 : Int) ≤ (c : Int) := by omega
        have qlt : (c : Int) < 127 := by omega
        have hpl : plainN c = false := by rw [plainN]; simp; omega
        rw [hpl, s34] at E1
        rw [s34, s92, s110] at E2
        have R1 := Lib.hid (calls_reads (s := (⟨#[34]⟩ : ByteArray) ++ s ++ (⟨#[34]⟩ : ByteArray)) (want := s) (ok := false) (by rw [ByteArray.size_append, ByteArray.size_append, E6] <;> decide) (by simpa using E1))
        have hbh : behindN c = s := by rw [behindN]; rw [if_neg (by omega)]; exact hb1
        rw [hbh] at E2
        have R2 := Lib.hid (calls_reads (s := (⟨#[34, 92]⟩ : ByteArray) ++ s ++ (⟨#[34]⟩ : ByteArray)) (want := s) (ok := false) (by rw [ByteArray.size_append, ByteArray.size_append, E6] <;> decide) (by simpa using E2))
        have R3 := Lib.hid (calls_reads (s := (⟨#[34, 92, 120]⟩ : ByteArray) ++ s ++ (⟨#[53, 34]⟩ : ByteArray)) (want := strOfNums [16 * (hexI c : Int) + 5]) (ok := hexO c) (by rw [ByteArray.size_append, ByteArray.size_append, E6] <;> decide) E3)
        have R4 := Lib.hid (calls_reads (s := (⟨#[34, 92, 120, 53]⟩ : ByteArray) ++ s ++ (⟨#[34]⟩ : ByteArray)) (want := strOfNums [80 + (hexI c : Int)]) (ok := hexO c) (by rw [ByteArray.size_append, ByteArray.size_append, E6] <;> decide) E4)
        have E5b : quoteL s = (wantN c).data.toList := E5
        have QQ := fun (W : World) (hT : Lib.Utf8Tabs 0 1 W) => quote_any s W (by omega) (Or.inl hT)
        have E5c : (⟨(quoteL s).toArray⟩ : ByteArray) = wantN c := ba_ext (by rw [E5b])
        rw [E5c] at QQ
        clear E1 E2 E3 E4 E5 E5b E5c s34 s92 s110 s127 s10 hpl hbh
        generalize hexO c = O at *
        generalize hexI c = D at *
        have S1 := low_slice (⟨#[48, 49, 50, 51, 52, 53, 54, 55, 56, 57, 97, 98, 99, 100, 101, 102]⟩ : ByteArray) (c / 16) (c / 16 + 1) (by omega) (by show _ ≤ 16; omega)
        have S2 := low_slice (⟨#[48, 49, 50, 51, 52, 53, 54, 55, 56, 57, 97, 98, 99, 100, 101, 102]⟩ : ByteArray) (c % 16) (c % 16 + 1) (by omega) (by show _ ≤ 16; omega)
        rw [show ((c / 16 : Nat) : Int) = (c : Int) / 16 by omega, show ((c / 16 + 1 : Nat) : Int) = (c : Int) / 16 + 1 by omega] at S1
        rw [show ((c % 16 : Nat) : Int) = (c : Int) % 16 by omega, show ((c % 16 + 1 : Nat) : Int) = (c : Int) % 16 + 1 by omega] at S2
        have X1 : ((⟨#[48, 49, 50, 51, 52, 53, 54, 55, 56, 57, 97, 98, 99, 100, 101, 102]⟩ : ByteArray).extract (c / 16) (c / 16 + 1)).size = 1 := by rw [ByteArray.size_extract]; show min _ 16 - _ = 1; omega
        have X2 : ((⟨#[48, 49, 50, 51, 52, 53, 54, 55, 56, 57, 97, 98, 99, 100, 101, 102]⟩ : ByteArray).extract (c % 16) (c % 16 + 1)).size = 1 := by rw [ByteArray.size_extract]; show min _ 16 - _ = 1; omega
        have hlow : lowD = (⟨#[48, 49, 50, 51, 52, 53, 54, 55, 56, 57, 97, 98, 99, 100, 101, 102]⟩ : ByteArray) := rfl
        have hwant : wantN c = wantN c := rfl
        clear hwant
        have hwant : wantN c = (⟨#[34, 92, 110, 34]⟩ : ByteArray) := by rw [wantN]; rw [if_pos kA]
        rw [hwant] at QQ
        clear hwant hlow
        generalize (⟨#[48, 49, 50, 51, 52, 53, 54, 55, 56, 57, 97, 98, 99, 100, 101, 102]⟩ : ByteArray).extract (c / 16) (c / 16 + 1) = x1 at *
        generalize (⟨#[48, 49, 50, 51, 52, 53, 54, 55, 56, 57, 97, 98, 99, 100, 101, 102]⟩ : ByteArray).extract (c % 16) (c % 16 + 1) = x2 at *
        have HQQ := Lib.hid QQ
        clear QQ
        clear kA
        go_wp2_with (first | (go_at_call 21; (with_reducible refine (HX.out _).mono ?_); rintro en wx ⟨rfl, hwx⟩; subst wx))
        refine (R1.out _).mono ?_
        clear R1
        rintro en w1 ⟨rfl, hy1⟩
        have ha1 := hbw.alloc hbw.size (.cells #[.int .u8 (c : Int)] 5)
        have hz1 := ha1.trans (hy1.mono ha1.size)
        clear ha1 hy1
        clear hbw
        go_wp2_with fail
        refine (R2.out _).mono ?_
        clear R2
        rintro en w2 ⟨rfl, hy2⟩
        have hz2 := hz1.trans (hy2.mono hz1.size)
        clear hy2
        clear hz1
        go_wp2_with fail
        refine (R3.out _).mono ?_
        clear R3
        rintro en w3 ⟨rfl, hy3⟩
        have ha3 := hz2.alloc hz2.size (.cells #[.int .u8 (16 * (D : Int) + 5)] 5)
        have hz3 := ha3.trans (hy3.mono ha3.size)
        clear ha3 hy3
        clear hz2
        go_wp2_with fail
        refine (R4.out _).mono ?_
        clear R4
        rintro en w4 ⟨rfl, hy4⟩
        have ha4 := hz3.alloc hz3.size (.cells #[.int .u8 (80 + (D : Int))] 5)
        have hz4 := ha4.trans (hy4.mono ha4.size)
        clear ha4 hy4
        clear hz3
        go_wp2_with fail
        refine wp_region_quiet_below w4.heap.size w4 (by kernel_rfl) (by kernel_rfl) (Below.refl _ _) ?_
        repeat go_big_quiet_step (fail)
        refine wpQuiet_nil ?_
        rintro w6 ⟨⟨u6, hy6⟩, h6⟩
        obtain rfl : w6 = u6 := h6
        have hz6 := hz4.trans (hy6.mono hz4.size)
        clear S1 S2 hy6 hz4
        go_wp2_with fail
        refine (HQQ.out w6 (HE.out.below hz6).tabs).mono ?_
        rintro en w7 ⟨rfl, hy7⟩
        have hz7 := hz6.trans (hy7.mono hz6.size)
        clear hy7 hz6
        go_wp2
        go_roundw
        case rel => exact ⟨c + 1, by go_num, by omega, hz7⟩
        case measure => simp [intOf]; omega
      · skip
        by_cases kB : c = 34
        · have q34 : (((c : Nat) : Int) == 34) = true := by simp; omega
          have r34 : (((c : Nat) : Int) != 34) = false := by simp; omega
          have s34 : (c == 34) = true := by simp; omega
          have q92 : (((c : Nat) : Int) == 92) = false := by simp; omega
          have r92 : (((c : Nat) : Int) != 92) = true := by simp; omega
          have s92 : (c == 92) = false := by simp; omega
          have q110 : (((c : Nat) : Int) == 110) = false := by simp; omega
          have r110 : (((c : Nat) : Int) != 110) = true := by simp; omega
          have s110 : (c == 110) = false := by simp; omega
          have q127 : (((c : Nat) : Int) == 127) = false := by simp; omega
          have r127 : (((c : Nat) : Int) != 127) = true := by simp; omega
          have s127 : (c == 127) = false := by simp; omega
          have q10 : (((c : Nat) : Int) == 10) = false := by simp; omega
          have r10 : (((c : Nat) : Int) != 10) = true := by simp; omega
          have s10 : (c == 10) = false := by simp; omega
          have qge : (32 : Int) ≤ (c : Int) := by omega
          have qlt : (c : Int) < 127 := by omega
          have hpl : plainN c = false := by rw [plainN]; simp; omega
          rw [hpl, s34] at E1
          rw [s34, s92, s110] at E2
          have hbh : behindN c = s := by rw [behindN]; rw [if_neg (by omega)]; exact hb1
          rw [hbh] at E2
          have E2b : readsV ((⟨#[34, 92]⟩ : ByteArray) ++ s ++ (⟨#[34]⟩ : ByteArray)) s true = true := by rw [show s = b1 34 by rw [← hb1, kB]; rfl]; kernel_rfl
          have R2 := Lib.hid (calls_reads (s := (⟨#[34, 92]⟩ : ByteArray) ++ s ++ (⟨#[34]⟩ : ByteArray)) (want := s) (ok := true) (by rw [ByteArray.size_append, ByteArray.size_append, E6] <;> decide) E2b)
          have R3 := Lib.hid (calls_reads (s := (⟨#[34, 92, 120]⟩ : ByteArray) ++ s ++ (⟨#[53, 34]⟩ : ByteArray)) (want := strOfNums [16 * (hexI c : Int) + 5]) (ok := hexO c) (by rw [ByteArray.size_append, ByteArray.size_append, E6] <;> decide) E3)
          have R4 := Lib.hid (calls_reads (s := (⟨#[34, 92, 120, 53]⟩ : ByteArray) ++ s ++ (⟨#[34]⟩ : ByteArray)) (want := strOfNums [80 + (hexI c : Int)]) (ok := hexO c) (by rw [ByteArray.size_append, ByteArray.size_append, E6] <;> decide) E4)
          have E5b : quoteL s = (wantN c).data.toList := E5
          have QQ := fun (W : World) (hT : Lib.Utf8Tabs 0 1 W) => quote_any s W (by omega) (Or.inl hT)
          have E5c : (⟨(quoteL s).toArray⟩ : ByteArray) = wantN c := ba_ext (by rw [E5b])
          rw [E5c] at QQ
          clear E1 E2 E3 E4 E5 E5b E5c s34 s92 s110 s127 s10 hpl hbh
          generalize hexO c = O at *
          generalize hexI c = D at *
          have S1 := low_slice (⟨#[48, 49, 50, 51, 52, 53, 54, 55, 56, 57, 97, 98, 99, 100, 101, 102]⟩ : ByteArray) (c / 16) (c / 16 + 1) (by omega) (by show _ ≤ 16; omega)
          have S2 := low_slice (⟨#[48, 49, 50, 51, 52, 53, 54, 55, 56, 57, 97, 98, 99, 100, 101, 102]⟩ : ByteArray) (c % 16) (c % 16 + 1) (by omega) (by show _ ≤ 16; omega)
          rw [show ((c / 16 : Nat) : Int) = (c : Int) / 16 by omega, show ((c / 16 + 1 : Nat) : Int) = (c : Int) / 16 + 1 by omega] at S1
          rw [show ((c % 16 : Nat) : Int) = (c : Int) % 16 by omega, show ((c % 16 + 1 : Nat) : Int) = (c : Int) % 16 + 1 by omega] at S2
          have X1 : ((⟨#[48, 49, 50, 51, 52, 53, 54, 55, 56, 57, 97, 98, 99, 100, 101, 102]⟩ : ByteArray).extract (c / 16) (c / 16 + 1)).size = 1 := by rw [ByteArray.size_extract]; show min _ 16 - _ = 1; omega
          have X2 : ((⟨#[48, 49, 50, 51, 52, 53, 54, 55, 56, 57, 97, 98, 99, 100, 101, 102]⟩ : ByteArray).extract (c % 16) (c % 16 + 1)).size = 1 := by rw [ByteArray.size_extract]; show min _ 16 - _ = 1; omega
          have hlow : lowD = (⟨#[48, 49, 50, 51, 52, 53, 54, 55, 56, 57, 97, 98, 99, 100, 101, 102]⟩ : ByteArray) := rfl
          have hwant : wantN c = wantN c := rfl
          clear hwant
          have hwant : wantN c = (⟨#[34, 92]⟩ : ByteArray) ++ s ++ (⟨#[34]⟩ : ByteArray) := by rw [wantN]; rw [if_neg (by omega), if_pos (by omega), b1, hb1]
          rw [hwant] at QQ
          clear hwant hlow
          generalize (⟨#[48, 49, 50, 51, 52, 53, 54, 55, 56, 57, 97, 98, 99, 100, 101, 102]⟩ : ByteArray).extract (c / 16) (c / 16 + 1) = x1 at *
          generalize (⟨#[48, 49, 50, 51, 52, 53, 54, 55, 56, 57, 97, 98, 99, 100, 101, 102]⟩ : ByteArray).extract (c % 16) (c % 16 + 1) = x2 at *
          have HQQ := Lib.hid QQ
          clear QQ
          clear kB
          go_wp2_with (first | (go_at_call 21; (with_reducible refine (HX.out _).mono ?_); rintro en wx ⟨rfl, hwx⟩; subst wx))
          refine (R2.out _).mono ?_
          clear R2
          rintro en w1 ⟨rfl, hy1⟩
          have ha1 := hbw.alloc hbw.size (.cells #[.int .u8 (c : Int)] 5)
          have hz1 := ha1.trans (hy1.mono ha1.size)
          clear ha1 hy1
          clear hbw
          go_wp2_with fail
          refine (R3.out _).mono ?_
          clear R3
          rintro en w2 ⟨rfl, hy2⟩
          have ha2 := hz1.alloc hz1.size (.cells #[.int .u8 (16 * (D : Int) + 5)] 5)
          have hz2 := ha2.trans (hy2.mono ha2.size)
          clear ha2 hy2
          clear hz1
          go_wp2_with fail
          refine (R4.out _).mono ?_
          clear R4
          rintro en w3 ⟨rfl, hy3⟩
          have ha3 := hz2.alloc hz2.size (.cells #[.int .u8 (80 + (D : Int))] 5)
          have hz3 := ha3.trans (hy3.mono ha3.size)
          clear ha3 hy3
          clear hz2
          go_wp2_with fail
          refine wp_region_quiet_below w3.heap.size w3 (by kernel_rfl) (by kernel_rfl) (Below.refl _ _) ?_
          repeat go_big_quiet_step (fail)
          refine wpQuiet_nil ?_
          rintro w6 ⟨⟨u6, hy6⟩, h6⟩
          obtain rfl : w6 = u6 := h6
          have hz6 := hz3.trans (hy6.mono hz3.size)
          clear S1 S2 hy6 hz3
          go_wp2_with fail
          refine (HQQ.out w6 (HE.out.below hz6).tabs).mono ?_
          rintro en w7 ⟨rfl, hy7⟩
          have hz7 := hz6.trans (hy7.mono hz6.size)
          clear hy7 hz6
          go_wp2
          go_roundw
          case rel => exact ⟨c + 1, by go_num, by omega, hz7⟩
          case measure => simp [intOf]; omega
        · skip
          by_cases kC : c = 92
          · have q34 : (((c : Nat) : Int) == 34) = false := by simp; omega
            have r34 : (((c : Nat) : Int) != 34) = true := by simp; omega
            have s34 : (c == 34) = false := by simp; omega
            have q92 : (((c : Nat) : Int) == 92) = true := by simp; omega
            have r92 : (((c : Nat) : Int) != 92) = false := by simp; omega
            have s92 : (c == 92) = true := by simp; omega
            have q110 : (((c : Nat) : Int) == 110) = false := by simp; omega
            have r110 : (((c : Nat) : Int) != 110) = true := by simp; omega
            have s110 : (c == 110) = false := by simp; omega
            have q127 : (((c : Nat) : Int) == 127) = false := by simp; omega
            have r127 : (((c : Nat) : Int) != 127) = true := by simp; omega
            have s127 : (c == 127) = false := by simp; omega
            have q10 : (((c : Nat) : Int) == 10) = false := by simp; omega
            have r10 : (((c : Nat) : Int) != 10) = true := by simp; omega
            have s10 : (c == 10) = false := by simp; omega
            have qge : (32 : Int) ≤ (c : Int) := by omega
            have qlt : (c : Int) < 127 := by omega
            have hpl : plainN c = false := by rw [plainN]; simp; omega
            rw [hpl, s34] at E1
            rw [s34, s92, s110] at E2
            have R1 := Lib.hid (calls_reads (s := (⟨#[34]⟩ : ByteArray) ++ s ++ (⟨#[34]⟩ : ByteArray)) (want := s) (ok := false) (by rw [ByteArray.size_append, ByteArray.size_append, E6] <;> decide) (by simpa using E1))
            have hbh : behindN c = s := by rw [behindN]; rw [if_neg (by omega)]; exact hb1
            rw [hbh] at E2
            have R2 := Lib.hid (calls_reads (s := (⟨#[34, 92]⟩ : ByteArray) ++ s ++ (⟨#[34]⟩ : ByteArray)) (want := s) (ok := true) (by rw [ByteArray.size_append, ByteArray.size_append, E6] <;> decide) (by simpa using E2))
            have R3 := Lib.hid (calls_reads (s := (⟨#[34, 92, 120]⟩ : ByteArray) ++ s ++ (⟨#[53, 34]⟩ : ByteArray)) (want := strOfNums [16 * (hexI c : Int) + 5]) (ok := hexO c) (by rw [ByteArray.size_append, ByteArray.size_append, E6] <;> decide) E3)
            have R4 := Lib.hid (calls_reads (s := (⟨#[34, 92, 120, 53]⟩ : ByteArray) ++ s ++ (⟨#[34]⟩ : ByteArray)) (want := strOfNums [80 + (hexI c : Int)]) (ok := hexO c) (by rw [ByteArray.size_append, ByteArray.size_append, E6] <;> decide) E4)
            have E5b : quoteL s = (wantN c).data.toList := E5
            have QQ := fun (W : World) (hT : Lib.Utf8Tabs 0 1 W) => quote_any s W (by omega) (Or.inl hT)
            have E5c : (⟨(quoteL s).toArray⟩ : ByteArray) = wantN c := ba_ext (by rw [E5b])
            rw [E5c] at QQ
            clear E1 E2 E3 E4 E5 E5b E5c s34 s92 s110 s127 s10 hpl hbh
            generalize hexO c = O at *
            generalize hexI c = D at *
            have S1 := low_slice (⟨#[48, 49, 50, 51, 52, 53, 54, 55, 56, 57, 97, 98, 99, 100, 101, 102]⟩ : ByteArray) (c / 16) (c / 16 + 1) (by omega) (by show _ ≤ 16; omega)
            have S2 := low_slice (⟨#[48, 49, 50, 51, 52, 53, 54, 55, 56, 57, 97, 98, 99, 100, 101, 102]⟩ : ByteArray) (c % 16) (c % 16 + 1) (by omega) (by show _ ≤ 16; omega)
            rw [show ((c / 16 : Nat) : Int) = (c : Int) / 16 by omega, show ((c / 16 + 1 : Nat) : Int) = (c : Int) / 16 + 1 by omega] at S1
            rw [show ((c % 16 : Nat) : Int) = (c : Int) % 16 by omega, show ((c % 16 + 1 : Nat) : Int) = (c : Int) % 16 + 1 by omega] at S2
            have X1 : ((⟨#[48, 49, 50, 51, 52, 53, 54, 55, 56, 57, 97, 98, 99, 100, 101, 102]⟩ : ByteArray).extract (c / 16) (c / 16 + 1)).size = 1 := by rw [ByteArray.size_extract]; show min _ 16 - _ = 1; omega
            have X2 : ((⟨#[48, 49, 50, 51, 52, 53, 54, 55, 56, 57, 97, 98, 99, 100, 101, 102]⟩ : ByteArray).extract (c % 16) (c % 16 + 1)).size = 1 := by rw [ByteArray.size_extract]; show min _ 16 - _ = 1; omega
            have hlow : lowD = (⟨#[48, 49, 50, 51, 52, 53, 54, 55, 56, 57, 97, 98, 99, 100, 101, 102]⟩ : ByteArray) := rfl
            have hwant : wantN c = wantN c := rfl
            clear hwant
            have hwant : wantN c = (⟨#[34, 92]⟩ : ByteArray) ++ s ++ (⟨#[34]⟩ : ByteArray) := by rw [wantN]; rw [if_neg (by omega), if_pos (by omega), b1, hb1]
            rw [hwant] at QQ
            clear hwant hlow
            generalize (⟨#[48, 49, 50, 51, 52, 53, 54, 55, 56, 57, 97, 98, 99, 100, 101, 102]⟩ : ByteArray).extract (c / 16) (c / 16 + 1) = x1 at *
            generalize (⟨#[48, 49, 50, 51, 52, 53, 54, 55, 56, 57, 97, 98, 99, 100, 101, 102]⟩ : ByteArray).extract (c % 16) (c % 16 + 1) = x2 at *
            have HQQ := Lib.hid QQ
            clear QQ
            clear kC
            go_wp2_with (first | (go_at_call 21; (with_reducible refine (HX.out _).mono ?_); rintro en wx ⟨rfl, hwx⟩; subst wx))
            refine (R1.out _).mono ?_
            clear R1
            rintro en w1 ⟨rfl, hy1⟩
            have ha1 := hbw.alloc hbw.size (.cells #[.int .u8 (c : Int)] 5)
            have hz1 := ha1.trans (hy1.mono ha1.size)
            clear ha1 hy1
            clear hbw
            go_wp2_with fail
            refine (R2.out _).mono ?_
            clear R2
            rintro en w2 ⟨rfl, hy2⟩
            have hz2 := hz1.trans (hy2.mono hz1.size)
            clear hy2
            clear hz1
            go_wp2_with fail
            refine (R3.out _).mono ?_
            clear R3
            rintro en w3 ⟨rfl, hy3⟩
            have ha3 := hz2.alloc hz2.size (.cells #[.int .u8 (16 * (D : Int) + 5)] 5)
            have hz3 := ha3.trans (hy3.mono ha3.size)
            clear ha3 hy3
            clear hz2
            go_wp2_with fail
            refine (R4.out _).mono ?_
            clear R4
            rintro en w4 ⟨rfl, hy4⟩
            have ha4 := hz3.alloc hz3.size (.cells #[.int .u8 (80 + (D : Int))] 5)
            have hz4 := ha4.trans (hy4.mono ha4.size)
            clear ha4 hy4
            clear hz3
            go_wp2_with fail
            refine wp_region_quiet_below w4.heap.size w4 (by kernel_rfl) (by kernel_rfl) (Below.refl _ _) ?_
            repeat go_big_quiet_step (fail)
            refine wpQuiet_nil ?_
            rintro w6 ⟨⟨u6, hy6⟩, h6⟩
            obtain rfl : w6 = u6 := h6
            have hz6 := hz4.trans (hy6.mono hz4.size)
            clear S1 S2 hy6 hz4
            go_wp2_with fail
            refine (HQQ.out w6 (HE.out.below hz6).tabs).mono ?_
            rintro en w7 ⟨rfl, hy7⟩
            have hz7 := hz6.trans (hy7.mono hz6.size)
            clear hy7 hz6
            go_wp2
            go_roundw
            case rel => exact ⟨c + 1, by go_num, by omega, hz7⟩
            case measure => simp [intOf]; omega
          · skip
            by_cases kD : c = 110
            · have q34 : (((c : Nat) : Int) == 34) = false := by simp; omega
              have r34 : (((c : Nat) : Int) != 34) = true := by simp; omega
              have s34 : (c == 34) = false := by simp; omega
              have q92 : (((c : Nat) : Int) == 92) = false := by simp; omega
              have r92 : (((c : Nat) : Int) != 92) = true := by simp; omega
              have s92 : (c == 92) = false := by simp; omega
              have q110 : (((c : Nat) : Int) == 110) = true := by simp; omega
              have r110 : (((c : Nat) : Int) != 110) = false := by simp; omega
              have s110 : (c == 110) = true := by simp; omega
              have q127 : (((c : Nat) : Int) == 127) = false := by simp; omega
              have r127 : (((c : Nat) : Int) != 127) = true := by simp; omega
              have s127 : (c == 127) = false := by simp; omega
              have q10 : (((c : Nat) : Int) == 10) = false := by simp; omega
              have r10 : (((c : Nat) : Int) != 10) = true := by simp; omega
              have s10 : (c == 10) = false := by simp; omega
              have qge : (32 : Int) ≤ (c : Int) := by omega
              have qlt : (c : Int) < 127 := by omega
              have hpl : plainN c = true := by rw [plainN]; simp; omega
              rw [hpl, s34] at E1
              rw [s34, s92, s110] at E2
              have R1 := Lib.hid (calls_reads (s := (⟨#[34]⟩ : ByteArray) ++ s ++ (⟨#[34]⟩ : ByteArray)) (want := s) (ok := true) (by rw [ByteArray.size_append, ByteArray.size_append, E6] <;> decide) (by simpa using E1))
              have hbh : behindN c = ⟨#[10]⟩ := by rw [behindN]; rw [if_pos (by omega)]
              rw [hbh] at E2
              have R2 := Lib.hid (calls_reads (s := (⟨#[34, 92]⟩ : ByteArray) ++ s ++ (⟨#[34]⟩ : ByteArray)) (want := ⟨#[10]⟩) (ok := true) (by rw [ByteArray.size_append, ByteArray.size_append, E6] <;> decide) (by simpa using E2))
              have R3 := Lib.hid (calls_reads (s := (⟨#[34, 92, 120]⟩ : ByteArray) ++ s ++ (⟨#[53, 34]⟩ : ByteArray)) (want := strOfNums [16 * (hexI c : Int) + 5]) (ok := hexO c) (by rw [ByteArray.size_append, ByteArray.size_append, E6] <;> decide) E3)
              have R4 := Lib.hid (calls_reads (s := (⟨#[34, 92, 120, 53]⟩ : ByteArray) ++ s ++ (⟨#[34]⟩ : ByteArray)) (want := strOfNums [80 + (hexI c : Int)]) (ok := hexO c) (by rw [ByteArray.size_append, ByteArray.size_append, E6] <;> decide) E4)
              have E5b : quoteL s = (wantN c).data.toList := E5
              have QQ := fun (W : World) (hT : Lib.Utf8Tabs 0 1 W) => quote_any s W (by omega) (Or.inl hT)
              have E5c : (⟨(quoteL s).toArray⟩ : ByteArray) = wantN c := ba_ext (by rw [E5b])
              rw [E5c] at QQ
              clear E1 E2 E3 E4 E5 E5b E5c s34 s92 s110 s127 s10 hpl hbh
              generalize hexO c = O at *
              generalize hexI c = D at *
              have S1 := low_slice (⟨#[48, 49, 50, 51, 52, 53, 54, 55, 56, 57, 97, 98, 99, 100, 101, 102]⟩ : ByteArray) (c / 16) (c / 16 + 1) (by omega) (by show _ ≤ 16; omega)
              have S2 := low_slice (⟨#[48, 49, 50, 51, 52, 53, 54, 55, 56, 57, 97, 98, 99, 100, 101, 102]⟩ : ByteArray) (c % 16) (c % 16 + 1) (by omega) (by show _ ≤ 16; omega)
              rw [show ((c / 16 : Nat) : Int) = (c : Int) / 16 by omega, show ((c / 16 + 1 : Nat) : Int) = (c : Int) / 16 + 1 by omega] at S1
              rw [show ((c % 16 : Nat) : Int) = (c : Int) % 16 by omega, show ((c % 16 + 1 : Nat) : Int) = (c : Int) % 16 + 1 by omega] at S2
              have X1 : ((⟨#[48, 49, 50, 51, 52, 53, 54, 55, 56, 57, 97, 98, 99, 100, 101, 102]⟩ : ByteArray).extract (c / 16) (c / 16 + 1)).size = 1 := by rw [ByteArray.size_extract]; show min _ 16 - _ = 1; omega
              have X2 : ((⟨#[48, 49, 50, 51, 52, 53, 54, 55, 56, 57, 97, 98, 99, 100, 101, 102]⟩ : ByteArray).extract (c % 16) (c % 16 + 1)).size = 1 := by rw [ByteArray.size_extract]; show min _ 16 - _ = 1; omega
              have hlow : lowD = (⟨#[48, 49, 50, 51, 52, 53, 54, 55, 56, 57, 97, 98, 99, 100, 101, 102]⟩ : ByteArray) := rfl
              have hwant : wantN c = wantN c := rfl
              clear hwant
              have hwant : wantN c = (⟨#[34]⟩ : ByteArray) ++ s ++ (⟨#[34]⟩ : ByteArray) := by rw [wantN]; rw [if_neg (by omega), if_neg (by omega), if_pos (by omega), b1, hb1]
              rw [hwant] at QQ
              clear hwant hlow
              generalize (⟨#[48, 49, 50, 51, 52, 53, 54, 55, 56, 57, 97, 98, 99, 100, 101, 102]⟩ : ByteArray).extract (c / 16) (c / 16 + 1) = x1 at *
              generalize (⟨#[48, 49, 50, 51, 52, 53, 54, 55, 56, 57, 97, 98, 99, 100, 101, 102]⟩ : ByteArray).extract (c % 16) (c % 16 + 1) = x2 at *
              have HQQ := Lib.hid QQ
              clear QQ
              clear kD
              go_wp2_with (first | (go_at_call 21; (with_reducible refine (HX.out _).mono ?_); rintro en wx ⟨rfl, hwx⟩; subst wx))
              refine (R1.out _).mono ?_
              clear R1
              rintro en w1 ⟨rfl, hy1⟩
              have ha1 := hbw.alloc hbw.size (.cells #[.int .u8 (c : Int)] 5)
              have hz1 := ha1.trans (hy1.mono ha1.size)
              clear ha1 hy1
              clear hbw
              go_wp2_with fail
              refine (R2.out _).mono ?_
              clear R2
              rintro en w2 ⟨rfl, hy2⟩
              have hz2 := hz1.trans (hy2.mono hz1.size)
              clear hy2
              clear hz1
              go_wp2_with fail
              refine (R3.out _).mono ?_
              clear R3
              rintro en w3 ⟨rfl, hy3⟩
              have ha3 := hz2.alloc hz2.size (.cells #[.int .u8 (16 * (D : Int) + 5)] 5)
              have hz3 := ha3.trans (hy3.mono ha3.size)
              clear ha3 hy3
              clear hz2
              go_wp2_with fail
              refine (R4.out _).mono ?_
              clear R4
              rintro en w4 ⟨rfl, hy4⟩
              have ha4 := hz3.alloc hz3.size (.cells #[.int .u8 (80 + (D : Int))] 5)
              have hz4 := ha4.trans (hy4.mono ha4.size)
              clear ha4 hy4
              clear hz3
              go_wp2_with fail
              refine wp_region_quiet_below w4.heap.size w4 (by kernel_rfl) (by kernel_rfl) (Below.refl _ _) ?_
              repeat go_big_quiet_step (fail)
              refine wpQuiet_nil ?_
              rintro w6 ⟨⟨u6, hy6⟩, h6⟩
              obtain rfl : w6 = u6 := h6
              have hz6 := hz4.trans (hy6.mono hz4.size)
              clear S1 S2 hy6 hz4
              go_wp2_with fail
              refine (HQQ.out w6 (HE.out.below hz6).tabs).mono ?_
              rintro en w7 ⟨rfl, hy7⟩
              have hz7 := hz6.trans (hy7.mono hz6.size)
              clear hy7 hz6
              go_wp2
              go_roundw
              case rel => exact ⟨c + 1, by go_num, by omega, hz7⟩
              case measure => simp [intOf]; omega
            · skip
              by_cases kE : c = 127
              · have q34 : (((c : Nat) : Int) == 34) = false := by simp; omega
                have r34 : (((c : Nat) : Int) != 34) = true := by simp; omega
                have s34 : (c == 34) = false := by simp; omega
                have q92 : (((c : Nat) : Int) == 92) = false := by simp; omega
                have r92 : (((c : Nat) : Int) != 92) = true := by simp; omega
                have s92 : (c == 92) = false := by simp; omega
                have q110 : (((c : Nat) : Int) == 110) = false := by simp; omega
                have r110 : (((c : Nat) : Int) != 110) = true := by simp; omega
                have s110 : (c == 110) = false := by simp; omega
                have q127 : (((c : Nat) : Int) == 127) = true := by simp; omega
                have r127 : (((c : Nat) : Int) != 127) = false := by simp; omega
                have s127 : (c == 127) = true := by simp; omega
                have q10 : (((c : Nat) : Int) == 10) = false := by simp; omega
                have r10 : (((c : Nat) : Int) != 10) = true := by simp; omega
                have s10 : (c == 10) = false := by simp; omega
                have qge : (32 : Int) ≤ (c : Int) := by omega
                have qlt : ¬ (c : Int) < 127 := by omega
                have hpl : plainN c = false := by rw [plainN]; simp; omega
                rw [hpl, s34] at E1
                rw [s34, s92, s110] at E2
                have R1 := Lib.hid (calls_reads (s := (⟨#[34]⟩ : ByteArray) ++ s ++ (⟨#[34]⟩ : ByteArray)) (want := s) (ok := false) (by rw [ByteArray.size_append, ByteArray.size_append, E6] <;> decide) (by simpa using E1))
                have hbh : behindN c = s := by rw [behindN]; rw [if_neg (by omega)]; exact hb1
                rw [hbh] at E2
                have R2 := Lib.hid (calls_reads (s := (⟨#[34, 92]⟩ : ByteArray) ++ s ++ (⟨#[34]⟩ : ByteArray)) (want := s) (ok := false) (by rw [ByteArray.size_append, ByteArray.size_append, E6] <;> decide) (by simpa using E2))
                have R3 := Lib.hid (calls_reads (s := (⟨#[34, 92, 120]⟩ : ByteArray) ++ s ++ (⟨#[53, 34]⟩ : ByteArray)) (want := strOfNums [16 * (hexI c : Int) + 5]) (ok := hexO c) (by rw [ByteArray.size_append, ByteArray.size_append, E6] <;> decide) E3)
                have R4 := Lib.hid (calls_reads (s := (⟨#[34, 92, 120, 53]⟩ : ByteArray) ++ s ++ (⟨#[34]⟩ : ByteArray)) (want := strOfNums [80 + (hexI c : Int)]) (ok := hexO c) (by rw [ByteArray.size_append, ByteArray.size_append, E6] <;> decide) E4)
                have E5b : quoteL s = (wantN c).data.toList := E5
                have QQ := fun (W : World) (hT : Lib.Utf8Tabs 0 1 W) => quote_any s W (by omega) (Or.inl hT)
                have E5c : (⟨(quoteL s).toArray⟩ : ByteArray) = wantN c := ba_ext (by rw [E5b])
                rw [E5c] at QQ
                clear E1 E2 E3 E4 E5 E5b E5c s34 s92 s110 s127 s10 hpl hbh
                generalize hexO c = O at *
                generalize hexI c = D at *
                have S1 := low_slice (⟨#[48, 49, 50, 51, 52, 53, 54, 55, 56, 57, 97, 98, 99, 100, 101, 102]⟩ : ByteArray) (c / 16) (c / 16 + 1) (by omega) (by show _ ≤ 16; omega)
                have S2 := low_slice (⟨#[48, 49, 50, 51, 52, 53, 54, 55, 56, 57, 97, 98, 99, 100, 101, 102]⟩ : ByteArray) (c % 16) (c % 16 + 1) (by omega) (by show _ ≤ 16; omega)
                rw [show ((c / 16 : Nat) : Int) = (c : Int) / 16 by omega, show ((c / 16 + 1 : Nat) : Int) = (c : Int) / 16 + 1 by omega] at S1
                rw [show ((c % 16 : Nat) : Int) = (c : Int) % 16 by omega, show ((c % 16 + 1 : Nat) : Int) = (c : Int) % 16 + 1 by omega] at S2
                have X1 : ((⟨#[48, 49, 50, 51, 52, 53, 54, 55, 56, 57, 97, 98, 99, 100, 101, 102]⟩ : ByteArray).extract (c / 16) (c / 16 + 1)).size = 1 := by rw [ByteArray.size_extract]; show min _ 16 - _ = 1; omega
                have X2 : ((⟨#[48, 49, 50, 51, 52, 53, 54, 55, 56, 57, 97, 98, 99, 100, 101, 102]⟩ : ByteArray).extract (c % 16) (c % 16 + 1)).size = 1 := by rw [ByteArray.size_extract]; show min _ 16 - _ = 1; omega
                have hlow : lowD = (⟨#[48, 49, 50, 51, 52, 53, 54, 55, 56, 57, 97, 98, 99, 100, 101, 102]⟩ : ByteArray) := rfl
                have hwant : wantN c = wantN c := rfl
                clear hwant
                have hwant : wantN c = (⟨#[34, 92, 120]⟩ : ByteArray) ++ (⟨#[48, 49, 50, 51, 52, 53, 54, 55, 56, 57, 97, 98, 99, 100, 101, 102]⟩ : ByteArray).extract (c / 16) (c / 16 + 1) ++ (⟨#[48, 49, 50, 51, 52, 53, 54, 55, 56, 57, 97, 98, 99, 100, 101, 102]⟩ : ByteArray).extract (c % 16) (c % 16 + 1) ++ (⟨#[34]⟩ : ByteArray) := by rw [wantN]; rw [if_neg (by omega), if_neg (by omega), if_neg (by omega), hlow]
                rw [hwant] at QQ
                clear hwant hlow
                generalize (⟨#[48, 49, 50, 51, 52, 53, 54, 55, 56, 57, 97, 98, 99, 100, 101, 102]⟩ : ByteArray).extract (c / 16) (c / 16 + 1) = x1 at *
                generalize (⟨#[48, 49, 50, 51, 52, 53, 54, 55, 56, 57, 97, 98, 99, 100, 101, 102]⟩ : ByteArray).extract (c % 16) (c % 16 + 1) = x2 at *
                have HQQ := Lib.hid QQ
                clear QQ
                clear kE
                go_wp2_with (first | (go_at_call 21; (with_reducible refine (HX.out _).mono ?_); rintro en wx ⟨rfl, hwx⟩; subst wx))
                refine (R1.out _).mono ?_
                clear R1
                rintro en w1 ⟨rfl, hy1⟩
                have ha1 := hbw.alloc hbw.size (.cells #[.int .u8 (c : Int)] 5)
                have hz1 := ha1.trans (hy1.mono ha1.size)
                clear ha1 hy1
                clear hbw
                go_wp2_with fail
                refine (R2.out _).mono ?_
                clear R2
                rintro en w2 ⟨rfl, hy2⟩
                have hz2 := hz1.trans (hy2.mono hz1.size)
                clear hy2
                clear hz1
                go_wp2_with fail
                refine (R3.out _).mono ?_
                clear R3
                rintro en w3 ⟨rfl, hy3⟩
                have ha3 := hz2.alloc hz2.size (.cells #[.int .u8 (16 * (D : Int) + 5)] 5)
                have hz3 := ha3.trans (hy3.mono ha3.size)
                clear ha3 hy3
                clear hz2
                go_wp2_with fail
                refine (R4.out _).mono ?_
                clear R4
                rintro en w4 ⟨rfl, hy4⟩
                have ha4 := hz3.alloc hz3.size (.cells #[.int .u8 (80 + (D : Int))] 5)
                have hz4 := ha4.trans (hy4.mono ha4.size)
                clear ha4 hy4
                clear hz3
                go_wp2_with fail
                refine wp_region_quiet_below w4.heap.size w4 (by kernel_rfl) (by kernel_rfl) (Below.refl _ _) ?_
                repeat go_big_quiet_step (fail)
                refine wpQuiet_nil ?_
                rintro w6 ⟨⟨u6, hy6⟩, h6⟩
                obtain rfl : w6 = u6 := h6
                have hz6 := hz4.trans (hy6.mono hz4.size)
                clear S1 S2 hy6 hz4
                go_wp2_with fail
                refine (HQQ.out w6 (HE.out.below hz6).tabs).mono ?_
                rintro en w7 ⟨rfl, hy7⟩
                have hz7 := hz6.trans (hy7.mono hz6.size)
                clear hy7 hz6
                go_wp2
                go_roundw
                case rel => exact ⟨c + 1, by go_num, by omega, hz7⟩
                case measure => simp [intOf]; omega
              · skip
                by_cases kF : c < 32
                · have q34 : (((c : Nat) : Int) == 34) = false := by simp; omega
                  have r34 : (((c : Nat) : Int) != 34) = true := by simp; omega
                  have s34 : (c == 34) = false := by simp; omega
                  have q92 : (((c : Nat) : Int) == 92) = false := by simp; omega
                  have r92 : (((c : Nat) : Int) != 92) = true := by simp; omega
                  have s92 : (c == 92) = false := by simp; omega
                  have q110 : (((c : Nat) : Int) == 110) = false := by simp; omega
                  have r110 : (((c : Nat) : Int) != 110) = true := by simp; omega
                  have s110 : (c == 110) = false := by simp; omega
                  have q127 : (((c : Nat) : Int) == 127) = false := by simp; omega
                  have r127 : (((c : Nat) : Int) != 127) = true := by simp; omega
                  have s127 : (c == 127) = false := by simp; omega
                  have q10 : (((c : Nat) : Int) == 10) = false := by simp; omega
                  have r10 : (((c : Nat) : Int) != 10) = true := by simp; omega
                  have s10 : (c == 10) = false := by simp; omega
                  have qge : ¬ (32 : Int) ≤ (c : Int) := by omega
                  have qlt : (c : Int) < 127 := by omega
                  have hpl : plainN c = false := by rw [plainN]; simp; omega
                  rw [hpl, s34] at E1
                  rw [s34, s92, s110] at E2
                  have R1 := Lib.hid (calls_reads (s := (⟨#[34]⟩ : ByteArray) ++ s ++ (⟨#[34]⟩ : ByteArray)) (want := s) (ok := false) (by rw [ByteArray.size_append, ByteArray.size_append, E6] <;> decide) (by simpa using E1))
                  have hbh : behindN c = s := by rw [behindN]; rw [if_neg (by omega)]; exact hb1
                  rw [hbh] at E2
                  have R2 := Lib.hid (calls_reads (s := (⟨#[34, 92]⟩ : ByteArray) ++ s ++ (⟨#[34]⟩ : ByteArray)) (want := s) (ok := false) (by rw [ByteArray.size_append, ByteArray.size_append, E6] <;> decide) (by simpa using E2))
                  have R3 := Lib.hid (calls_reads (s := (⟨#[34, 92, 120]⟩ : ByteArray) ++ s ++ (⟨#[53, 34]⟩ : ByteArray)) (want := strOfNums [16 * (hexI c : Int) + 5]) (ok := hexO c) (by rw [ByteArray.size_append, ByteArray.size_append, E6] <;> decide) E3)
                  have R4 := Lib.hid (calls_reads (s := (⟨#[34, 92, 120, 53]⟩ : ByteArray) ++ s ++ (⟨#[34]⟩ : ByteArray)) (want := strOfNums [80 + (hexI c : Int)]) (ok := hexO c) (by rw [ByteArray.size_append, ByteArray.size_append, E6] <;> decide) E4)
                  have E5b : quoteL s = (wantN c).data.toList := E5
                  have QQ := fun (W : World) (hT : Lib.Utf8Tabs 0 1 W) => quote_any s W (by omega) (Or.inl hT)
                  have E5c : (⟨(quoteL s).toArray⟩ : ByteArray) = wantN c := ba_ext (by rw [E5b])
                  rw [E5c] at QQ
                  clear E1 E2 E3 E4 E5 E5b E5c s34 s92 s110 s127 s10 hpl hbh
                  generalize hexO c = O at *
                  generalize hexI c = D at *
                  have S1 := low_slice (⟨#[48, 49, 50, 51, 52, 53, 54, 55, 56, 57, 97, 98, 99, 100, 101, 102]⟩ : ByteArray) (c / 16) (c / 16 + 1) (by omega) (by show _ ≤ 16; omega)
                  have S2 := low_slice (⟨#[48, 49, 50, 51, 52, 53, 54, 55, 56, 57, 97, 98, 99, 100, 101, 102]⟩ : ByteArray) (c % 16) (c % 16 + 1) (by omega) (by show _ ≤ 16; omega)
                  rw [show ((c / 16 : Nat) : Int) = (c : Int) / 16 by omega, show ((c / 16 + 1 : Nat) : Int) = (c : Int) / 16 + 1 by omega] at S1
                  rw [show ((c % 16 : Nat) : Int) = (c : Int) % 16 by omega, show ((c % 16 + 1 : Nat) : Int) = (c : Int) % 16 + 1 by omega] at S2
                  have X1 : ((⟨#[48, 49, 50, 51, 52, 53, 54, 55, 56, 57, 97, 98, 99, 100, 101, 102]⟩ : ByteArray).extract (c / 16) (c / 16 + 1)).size = 1 := by rw [ByteArray.size_extract]; show min _ 16 - _ = 1; omega
                  have X2 : ((⟨#[48, 49, 50, 51, 52, 53, 54, 55, 56, 57, 97, 98, 99, 100, 101, 102]⟩ : ByteArray).extract (c % 16) (c % 16 + 1)).size = 1 := by rw [ByteArray.size_extract]; show min _ 16 - _ = 1; omega
                  have hlow : lowD = (⟨#[48, 49, 50, 51, 52, 53, 54, 55, 56, 57, 97, 98, 99, 100, 101, 102]⟩ : ByteArray) := rfl
                  have hwant : wantN c = wantN c := rfl
                  clear hwant
                  have hwant : wantN c = (⟨#[34, 92, 120]⟩ : ByteArray) ++ (⟨#[48, 49, 50, 51, 52, 53, 54, 55, 56, 57, 97, 98, 99, 100, 101, 102]⟩ : ByteArray).extract (c / 16) (c / 16 + 1) ++ (⟨#[48, 49, 50, 51, 52, 53, 54, 55, 56, 57, 97, 98, 99, 100, 101, 102]⟩ : ByteArray).extract (c % 16) (c % 16 + 1) ++ (⟨#[34]⟩ : ByteArray) := by rw [wantN]; rw [if_neg (by omega), if_neg (by omega), if_neg (by omega), hlow]
                  rw [hwant] at QQ
                  clear hwant hlow
                  generalize (⟨#[48, 49, 50, 51, 52, 53, 54, 55, 56, 57, 97, 98, 99, 100, 101, 102]⟩ : ByteArray).extract (c / 16) (c / 16 + 1) = x1 at *
                  generalize (⟨#[48, 49, 50, 51, 52, 53, 54, 55, 56, 57, 97, 98, 99, 100, 101, 102]⟩ : ByteArray).extract (c % 16) (c % 16 + 1) = x2 at *
                  have HQQ := Lib.hid QQ
                  clear QQ
                  go_wp2_with (first | (go_at_call 21; (with_reducible refine (HX.out _).mono ?_); rintro en wx ⟨rfl, hwx⟩; subst wx))
                  refine (R1.out _).mono ?_
                  clear R1
                  rintro en w1 ⟨rfl, hy1⟩
                  have ha1 := hbw.alloc hbw.size (.cells #[.int .u8 (c : Int)] 5)
                  have hz1 := ha1.trans (hy1.mono ha1.size)
                  clear ha1 hy1
                  clear hbw
                  go_wp2_with fail
                  refine (R2.out _).mono ?_
                  clear R2
                  rintro en w2 ⟨rfl, hy2⟩
                  have hz2 := hz1.trans (hy2.mono hz1.size)
                  clear hy2
                  clear hz1
                  go_wp2_with fail
                  refine (R3.out _).mono ?_
                  clear R3
                  rintro en w3 ⟨rfl, hy3⟩
                  have ha3 := hz2.alloc hz2.size (.cells #[.int .u8 (16 * (D : Int) + 5)] 5)
                  have hz3 := ha3.trans (hy3.mono ha3.size)
                  clear ha3 hy3
                  clear hz2
                  go_wp2_with fail
                  refine (R4.out _).mono ?_
                  clear R4
                  rintro en w4 ⟨rfl, hy4⟩
                  have ha4 := hz3.alloc hz3.size (.cells #[.int .u8 (80 + (D : Int))] 5)
                  have hz4 := ha4.trans (hy4.mono ha4.size)
                  clear ha4 hy4
                  clear hz3
                  go_wp2_with fail
                  refine wp_region_quiet_below w4.heap.size w4 (by kernel_rfl) (by kernel_rfl) (Below.refl _ _) ?_
                  repeat go_big_quiet_step (fail)
                  refine wpQuiet_nil ?_
                  rintro w6 ⟨⟨u6, hy6⟩, h6⟩
                  obtain rfl : w6 = u6 := h6
                  have hz6 := hz4.trans (hy6.mono hz4.size)
                  clear S1 S2 hy6 hz4
                  go_wp2_with fail
                  refine (HQQ.out w6 (HE.out.below hz6).tabs).mono ?_
                  rintro en w7 ⟨rfl, hy7⟩
                  have hz7 := hz6.trans (hy7.mono hz6.size)
                  clear hy7 hz6
                  go_wp2
                  go_roundw
                  case rel => exact ⟨c + 1, by go_num, by omega, hz7⟩
                  case measure => simp [intOf]; omega
                · skip
                  by_cases kG : 128 ≤ c
                  · have q34 : (((c : Nat) : Int) == 34) = false := by simp; omega
                    have r34 : (((c : Nat) : Int) != 34) = true := by simp; omega
                    have s34 : (c == 34) = false := by simp; omega
                    have q92 : (((c : Nat) : Int) == 92) = false := by simp; omega
                    have r92 : (((c : Nat) : Int) != 92) = true := by simp; omega
                    have s92 : (c == 92) = false := by simp; omega
                    have q110 : (((c : Nat) : Int) == 110) = false := by simp; omega
                    have r110 : (((c : Nat) : Int) != 110) = true := by simp; omega
                    have s110 : (c == 110) = false := by simp; omega
                    have q127 : (((c : Nat) : Int) == 127) = false := by simp; omega
                    have r127 : (((c : Nat) : Int) != 127) = true := by simp; omega
                    have s127 : (c == 127) = false := by simp; omega
                    have q10 : (((c : Nat) : Int) == 10) = false := by simp; omega
                    have r10 : (((c : Nat) : Int) != 10) = true := by simp; omega
                    have s10 : (c == 10) = false := by simp; omega
                    have qge : (32 : Int) ≤ (c : Int) := by omega
                    have qlt : ¬ (c : Int) < 127 := by omega
                    have hpl : plainN c = true := by rw [plainN]; simp; omega
                    rw [hpl, s34] at E1
                    rw [s34, s92, s110] at E2
                    have R1 := Lib.hid (calls_reads (s := (⟨#[34]⟩ : ByteArray) ++ s ++ (⟨#[34]⟩ : ByteArray)) (want := s) (ok := true) (by rw [ByteArray.size_append, ByteArray.size_append, E6] <;> decide) (by simpa using E1))
                    have hbh : behindN c = s := by rw [behindN]; rw [if_neg (by omega)]; exact hb1
                    rw [hbh] at E2
                    have R2 := Lib.hid (calls_reads (s := (⟨#[34, 92]⟩ : ByteArray) ++ s ++ (⟨#[34]⟩ : ByteArray)) (want := s) (ok := false) (by rw [ByteArray.size_append, ByteArray.size_append, E6] <;> decide) (by simpa using E2))
                    have R3 := Lib.hid (calls_reads (s := (⟨#[34, 92, 120]⟩ : ByteArray) ++ s ++ (⟨#[53, 34]⟩ : ByteArray)) (want := strOfNums [16 * (hexI c : Int) + 5]) (ok := hexO c) (by rw [ByteArray.size_append, ByteArray.size_append, E6] <;> decide) E3)
                    have R4 := Lib.hid (calls_reads (s := (⟨#[34, 92, 120, 53]⟩ : ByteArray) ++ s ++ (⟨#[34]⟩ : ByteArray)) (want := strOfNums [80 + (hexI c : Int)]) (ok := hexO c) (by rw [ByteArray.size_append, ByteArray.size_append, E6] <;> decide) E4)
                    have E5b : quoteL s = (wantN c).data.toList := E5
                    have QQ := fun (W : World) (hT : Lib.Utf8Tabs 0 1 W) => quote_any s W (by omega) (Or.inl hT)
                    have E5c : (⟨(quoteL s).toArray⟩ : ByteArray) = wantN c := ba_ext (by rw [E5b])
                    rw [E5c] at QQ
                    clear E1 E2 E3 E4 E5 E5b E5c s34 s92 s110 s127 s10 hpl hbh
                    generalize hexO c = O at *
                    generalize hexI c = D at *
                    have S1 := low_slice (⟨#[48, 49, 50, 51, 52, 53, 54, 55, 56, 57, 97, 98, 99, 100, 101, 102]⟩ : ByteArray) (c / 16) (c / 16 + 1) (by omega) (by show _ ≤ 16; omega)
                    have S2 := low_slice (⟨#[48, 49, 50, 51, 52, 53, 54, 55, 56, 57, 97, 98, 99, 100, 101, 102]⟩ : ByteArray) (c % 16) (c % 16 + 1) (by omega) (by show _ ≤ 16; omega)
                    rw [show ((c / 16 : Nat) : Int) = (c : Int) / 16 by omega, show ((c / 16 + 1 : Nat) : Int) = (c : Int) / 16 + 1 by omega] at S1
                    rw [show ((c % 16 : Nat) : Int) = (c : Int) % 16 by omega, show ((c % 16 + 1 : Nat) : Int) = (c : Int) % 16 + 1 by omega] at S2
                    have X1 : ((⟨#[48, 49, 50, 51, 52, 53, 54, 55, 56, 57, 97, 98, 99, 100, 101, 102]⟩ : ByteArray).extract (c / 16) (c / 16 + 1)).size = 1 := by rw [ByteArray.size_extract]; show min _ 16 - _ = 1; omega
                    have X2 : ((⟨#[48, 49, 50, 51, 52, 53, 54, 55, 56, 57, 97, 98, 99, 100, 101, 102]⟩ : ByteArray).extract (c % 16) (c % 16 + 1)).size = 1 := by rw [ByteArray.size_extract]; show min _ 16 - _ = 1; omega
                    have hlow : lowD = (⟨#[48, 49, 50, 51, 52, 53, 54, 55, 56, 57, 97, 98, 99, 100, 101, 102]⟩ : ByteArray) := rfl
                    have hwant : wantN c = wantN c := rfl
                    clear hwant
                    have hwant : wantN c = (⟨#[34, 92, 120]⟩ : ByteArray) ++ (⟨#[48, 49, 50, 51, 52, 53, 54, 55, 56, 57, 97, 98, 99, 100, 101, 102]⟩ : ByteArray).extract (c / 16) (c / 16 + 1) ++ (⟨#[48, 49, 50, 51, 52, 53, 54, 55, 56, 57, 97, 98, 99, 100, 101, 102]⟩ : ByteArray).extract (c % 16) (c % 16 + 1) ++ (⟨#[34]⟩ : ByteArray) := by rw [wantN]; rw [if_neg (by omega), if_neg (by omega), if_neg (by omega), hlow]
                    rw [hwant] at QQ
                    clear hwant hlow
                    generalize (⟨#[48, 49, 50, 51, 52, 53, 54, 55, 56, 57, 97, 98, 99, 100, 101, 102]⟩ : ByteArray).extract (c / 16) (c / 16 + 1) = x1 at *
                    generalize (⟨#[48, 49, 50, 51, 52, 53, 54, 55, 56, 57, 97, 98, 99, 100, 101, 102]⟩ : ByteArray).extract (c % 16) (c % 16 + 1) = x2 at *
                    have HQQ := Lib.hid QQ
                    clear QQ
                    go_wp2_with (first | (go_at_call 21; (with_reducible refine (HX.out _).mono ?_); rintro en wx ⟨rfl, hwx⟩; subst wx))
                    refine (R1.out _).mono ?_
                    clear R1
                    rintro en w1 ⟨rfl, hy1⟩
                    have ha1 := hbw.alloc hbw.size (.cells #[.int .u8 (c : Int)] 5)
                    have hz1 := ha1.trans (hy1.mono ha1.size)
                    clear ha1 hy1
                    clear hbw
                    go_wp2_with fail
                    refine (R2.out _).mono ?_
                    clear R2
                    rintro en w2 ⟨rfl, hy2⟩
                    have hz2 := hz1.trans (hy2.mono hz1.size)
                    clear hy2
                    clear hz1
                    go_wp2_with fail
                    refine (R3.out _).mono ?_
                    clear R3
                    rintro en w3 ⟨rfl, hy3⟩
                    have ha3 := hz2.alloc hz2.size (.cells #[.int .u8 (16 * (D : Int) + 5)] 5)
                    have hz3 := ha3.trans (hy3.mono ha3.size)
                    clear ha3 hy3
                    clear hz2
                    go_wp2_with fail
                    refine (R4.out _).mono ?_
                    clear R4
                    rintro en w4 ⟨rfl, hy4⟩
                    have ha4 := hz3.alloc hz3.size (.cells #[.int .u8 (80 + (D : Int))] 5)
                    have hz4 := ha4.trans (hy4.mono ha4.size)
                    clear ha4 hy4
                    clear hz3
                    go_wp2_with fail
                    refine wp_region_quiet_below w4.heap.size w4 (by kernel_rfl) (by kernel_rfl) (Below.refl _ _) ?_
                    repeat go_big_quiet_step (fail)
                    refine wpQuiet_nil ?_
                    rintro w6 ⟨⟨u6, hy6⟩, h6⟩
                    obtain rfl : w6 = u6 := h6
                    have hz6 := hz4.trans (hy6.mono hz4.size)
                    clear S1 S2 hy6 hz4
                    go_wp2_with fail
                    refine (HQQ.out w6 (HE.out.below hz6).tabs).mono ?_
                    rintro en w7 ⟨rfl, hy7⟩
                    have hz7 := hz6.trans (hy7.mono hz6.size)
                    clear hy7 hz6
                    go_wp2
                    go_roundw
                    case rel => exact ⟨c + 1, by go_num, by omega, hz7⟩
                    case measure => simp [intOf]; omega
                  · skip
                    have q34 : (((c : Nat) : Int) == 34) = false := by simp; omega
                    have r34 : (((c : Nat) : Int) != 34) = true := by simp; omega
                    have s34 : (c == 34) = false := by simp; omega
                    have q92 : (((c : Nat) : Int) == 92) = false := by simp; omega
                    have r92 : (((c : Nat) : Int) != 92) = true := by simp; omega
                    have s92 : (c == 92) = false := by simp; omega
                    have q110 : (((c : Nat) : Int) == 110) = false := by simp; omega
                    have r110 : (((c : Nat) : Int) != 110) = true := by simp; omega
                    have s110 : (c == 110) = false := by simp; omega
                    have q127 : (((c : Nat) : Int) == 127) = false := by simp; omega
                    have r127 : (((c : Nat) : Int) != 127) = true := by simp; omega
                    have s127 : (c == 127) = false := by simp; omega
                    have q10 : (((c : Nat) : Int) == 10) = false := by simp; omega
                    have r10 : (((c : Nat) : Int) != 10) = true := by simp; omega
                    have s10 : (c == 10) = false := by simp; omega
                    have qge : (32 : Int) ≤ (c : Int) := by omega
                    have qlt : (c : Int) < 127 := by omega
                    have hpl : plainN c = true := by rw [plainN]; simp; omega
                    rw [hpl, s34] at E1
                    rw [s34, s92, s110] at E2
                    have R1 := Lib.hid (calls_reads (s := (⟨#[34]⟩ : ByteArray) ++ s ++ (⟨#[34]⟩ : ByteArray)) (want := s) (ok := true) (by rw [ByteArray.size_append, ByteArray.size_append, E6] <;> decide) (by simpa using E1))
                    have hbh : behindN c = s := by rw [behindN]; rw [if_neg (by omega)]; exact hb1
                    rw [hbh] at E2
                    have R2 := Lib.hid (calls_reads (s := (⟨#[34, 92]⟩ : ByteArray) ++ s ++ (⟨#[34]⟩ : ByteArray)) (want := s) (ok := false) (by rw [ByteArray.size_append, ByteArray.size_append, E6] <;> decide) (by simpa using E2))
                    have R3 := Lib.hid (calls_reads (s := (⟨#[34, 92, 120]⟩ : ByteArray) ++ s ++ (⟨#[53, 34]⟩ : ByteArray)) (want := strOfNums [16 * (hexI c : Int) + 5]) (ok := hexO c) (by rw [ByteArray.size_append, ByteArray.size_append, E6] <;> decide) E3)
                    have R4 := Lib.hid (calls_reads (s := (⟨#[34, 92, 120, 53]⟩ : ByteArray) ++ s ++ (⟨#[34]⟩ : ByteArray)) (want := strOfNums [80 + (hexI c : Int)]) (ok := hexO c) (by rw [ByteArray.size_append, ByteArray.size_append, E6] <;> decide) E4)
                    have E5b : quoteL s = (wantN c).data.toList := E5
                    have QQ := fun (W : World) (hT : Lib.Utf8Tabs 0 1 W) => quote_any s W (by omega) (Or.inl hT)
                    have E5c : (⟨(quoteL s).toArray⟩ : ByteArray) = wantN c := ba_ext (by rw [E5b])
                    rw [E5c] at QQ
                    clear E1 E2 E3 E4 E5 E5b E5c s34 s92 s110 s127 s10 hpl hbh
                    generalize hexO c = O at *
                    generalize hexI c = D at *
                    have S1 := low_slice (⟨#[48, 49, 50, 51, 52, 53, 54, 55, 56, 57, 97, 98, 99, 100, 101, 102]⟩ : ByteArray) (c / 16) (c / 16 + 1) (by omega) (by show _ ≤ 16; omega)
                    have S2 := low_slice (⟨#[48, 49, 50, 51, 52, 53, 54, 55, 56, 57, 97, 98, 99, 100, 101, 102]⟩ : ByteArray) (c % 16) (c % 16 + 1) (by omega) (by show _ ≤ 16; omega)
                    rw [show ((c / 16 : Nat) : Int) = (c : Int) / 16 by omega, show ((c / 16 + 1 : Nat) : Int) = (c : Int) / 16 + 1 by omega] at S1
                    rw [show ((c % 16 : Nat) : Int) = (c : Int) % 16 by omega, show ((c % 16 + 1 : Nat) : Int) = (c : Int) % 16 + 1 by omega] at S2
                    have X1 : ((⟨#[48, 49, 50, 51, 52, 53, 54, 55, 56, 57, 97, 98, 99, 100, 101, 102]⟩ : ByteArray).extract (c / 16) (c / 16 + 1)).size = 1 := by rw [ByteArray.size_extract]; show min _ 16 - _ = 1; omega
                    have X2 : ((⟨#[48, 49, 50, 51, 52, 53, 54, 55, 56, 57, 97, 98, 99, 100, 101, 102]⟩ : ByteArray).extract (c % 16) (c % 16 + 1)).size = 1 := by rw [ByteArray.size_extract]; show min _ 16 - _ = 1; omega
                    have hlow : lowD = (⟨#[48, 49, 50, 51, 52, 53, 54, 55, 56, 57, 97, 98, 99, 100, 101, 102]⟩ : ByteArray) := rfl
                    have hwant : wantN c = wantN c := rfl
                    clear hwant
                    have hwant : wantN c = (⟨#[34]⟩ : ByteArray) ++ s ++ (⟨#[34]⟩ : ByteArray) := by rw [wantN]; rw [if_neg (by omega), if_neg (by omega), if_pos (by omega), b1, hb1]
                    rw [hwant] at QQ
                    clear hwant hlow
                    generalize (⟨#[48, 49, 50, 51, 52, 53, 54, 55, 56, 57, 97, 98, 99, 100, 101, 102]⟩ : ByteArray).extract (c / 16) (c / 16 + 1) = x1 at *
                    generalize (⟨#[48, 49, 50, 51, 52, 53, 54, 55, 56, 57, 97, 98, 99, 100, 101, 102]⟩ : ByteArray).extract (c % 16) (c % 16 + 1) = x2 at *
                    have HQQ := Lib.hid QQ
                    clear QQ
                    go_wp2_with (first | (go_at_call 21; (with_reducible refine (HX.out _).mono ?_); rintro en wx ⟨rfl, hwx⟩; subst wx))
                    refine (R1.out _).mono ?_
                    clear R1
                    rintro en w1 ⟨rfl, hy1⟩
                    have ha1 := hbw.alloc hbw.size (.cells #[.int .u8 (c : Int)] 5)
                    have hz1 := ha1.trans (hy1.mono ha1.size)
                    clear ha1 hy1
                    clear hbw
                    go_wp2_with fail
                    refine (R2.out _).mono ?_
                    clear R2
                    rintro en w2 ⟨rfl, hy2⟩
                    have hz2 := hz1.trans (hy2.mono hz1.size)
                    clear hy2
                    clear hz1
                    go_wp2_with fail
                    refine (R3.out _).mono ?_
                    clear R3
                    rintro en w3 ⟨rfl, hy3⟩
                    have ha3 := hz2.alloc hz2.size (.cells #[.int .u8 (16 * (D : Int) + 5)] 5)
                    have hz3 := ha3.trans (hy3.mono ha3.size)
                    clear ha3 hy3
                    clear hz2
                    go_wp2_with fail
                    refine (R4.out _).mono ?_
                    clear R4
                    rintro en w4 ⟨rfl, hy4⟩
                    have ha4 := hz3.alloc hz3.size (.cells #[.int .u8 (80 + (D : Int))] 5)
                    have hz4 := ha4.trans (hy4.mono ha4.size)
                    clear ha4 hy4
                    clear hz3
                    go_wp2_with fail
                    refine wp_region_quiet_below w4.heap.size w4 (by kernel_rfl) (by kernel_rfl) (Below.refl _ _) ?_
                    repeat go_big_quiet_step (fail)
                    refine wpQuiet_nil ?_
                    rintro w6 ⟨⟨u6, hy6⟩, h6⟩
                    obtain rfl : w6 = u6 := h6
                    have hz6 := hz4.trans (hy6.mono hz4.size)
                    clear S1 S2 hy6 hz4
                    go_wp2_with fail
                    refine (HQQ.out w6 (HE.out.below hz6).tabs).mono ?_
                    rintro en w7 ⟨rfl, hy7⟩
                    have hz7 := hz6.trans (hy7.mono hz6.size)
                    clear hy7 hz6
                    go_wp2
                    go_roundw
                    case rel => exact ⟨c + 1, by go_num, by omega, hz7⟩
                    case measure => simp [intOf]; omega
    · have HX := Lib.hid (show ∀ i (h : i < endsL.length), readsV endsL[i] ⟨#[]⟩ false = true ∧ endsL[i].size ≤ 100 from ends_ok)
      obtain ⟨y, hy⟩ : ∃ y, y = endsL := ⟨_, rfl⟩
      have HYL := Lib.hid (show y.length = 11 by rw [hy]; rfl)
      rw [← hy] at HX
      have HY := Lib.hid (show y = [⟨#[]⟩, ⟨#[34]⟩, ⟨#[34, 97]⟩, ⟨#[34, 92]⟩, ⟨#[34, 92, 120]⟩, ⟨#[34, 92, 120, 52]⟩, ⟨#[34, 92, 120, 52, 34]⟩, ⟨#[34, 92, 120, 34]⟩, ⟨#[34, 92, 120, 52, 49]⟩, ⟨#[97, 34, 34]⟩, ⟨#[32, 34, 34]⟩] from hy)
      clear hy
      have hc256 : decide ((c : Int) < 256) = false := decide_eq_false (by omega)
      go_wp2_with ((with_reducible refine gate_dst (N := 143) rfl ?_); refine Kd.R_lit Kd.string _ 9 ?hg (N := 143) ?hd (xs := ([(⟨#[]⟩ : ByteArray), (⟨#[34]⟩ : ByteArray), (⟨#[34, 97]⟩ : ByteArray), (⟨#[34, 92]⟩ : ByteArray), (⟨#[34, 92, 120]⟩ : ByteArray), (⟨#[34, 92, 120, 52]⟩ : ByteArray), (⟨#[34, 92, 120, 52, 34]⟩ : ByteArray), (⟨#[34, 92, 120, 34]⟩ : ByteArray), (⟨#[34, 92, 120, 52, 49]⟩ : ByteArray), (⟨#[97, 34, 34]⟩ : ByteArray), (⟨#[32, 34, 34]⟩ : ByteArray)] : List ByteArray)) (inner := [.string (⟨#[]⟩ : ByteArray), .string (⟨#[34]⟩ : ByteArray), .string (⟨#[34, 97]⟩ : ByteArray), .string (⟨#[34, 92]⟩ : ByteArray), .string (⟨#[34, 92, 120]⟩ : ByteArray), .string (⟨#[34, 92, 120, 52]⟩ : ByteArray), .string (⟨#[34, 92, 120, 52, 34]⟩ : ByteArray), .string (⟨#[34, 92, 120, 34]⟩ : ByteArray), .string (⟨#[34, 92, 120, 52, 49]⟩ : ByteArray), .string (⟨#[97, 34, 34]⟩ : ByteArray), .string (⟨#[32, 34, 34]⟩ : ByteArray)]) (ok := fun _ => True) (okp := fun _ => True) ?hr ?hp (fun _ hk => hk) trivial (Below.refl _ _) (Nat.le_refl _) (by simp) ?_; (case hd => rfl); (case hg => rfl); (case hr => first | (go_simp; done) | (go_simp; rfl)); (case hp => exact (Reps.one (show Kd.M Kd.string _ _ _ (⟨#[]⟩ : ByteArray) [.string (⟨#[]⟩ : ByteArray)] from rfl) (Reps.one (show Kd.M Kd.string _ _ _ (⟨#[34]⟩ : ByteArray) [.string (⟨#[34]⟩ : ByteArray)] from rfl) (Reps.one (show Kd.M Kd.string _ _ _ (⟨#[34, 97]⟩ : ByteArray) [.string (⟨#[34, 97]⟩ : ByteArray)] from rfl) (Reps.one (show Kd.M Kd.string _ _ _ (⟨#[34, 92]⟩ : ByteArray) [.string (⟨#[34, 92]⟩ : ByteArray)] from rfl) (Reps.one (show Kd.M Kd.string _ _ _ (⟨#[34, 92, 120]⟩ : ByteArray) [.string (⟨#[34, 92, 120]⟩ : ByteArray)] from rfl) (Reps.one (show Kd.M Kd.string _ _ _ (⟨#[34, 92, 120, 52]⟩ : ByteArray) [.string (⟨#[34, 92, 120, 52]⟩ : ByteArray)] from rfl) (Reps.one (show Kd.M Kd.string _ _ _ (⟨#[34, 92, 120, 52, 34]⟩ : ByteArray) [.string (⟨#[34, 92, 120, 52, 34]⟩ : ByteArray)] from rfl) (Reps.one (show Kd.M Kd.string _ _ _ (⟨#[34, 92, 120, 34]⟩ : ByteArray) [.string (⟨#[34, 92, 120, 34]⟩ : ByteArray)] from rfl) (Reps.one (show Kd.M Kd.string _ _ _ (⟨#[34, 92, 120, 52, 49]⟩ : ByteArray) [.string (⟨#[34, 92, 120, 52, 49]⟩ : ByteArray)] from rfl) (Reps.one (show Kd.M Kd.string _ _ _ (⟨#[97, 34, 34]⟩ : ByteArray) [.string (⟨#[97, 34, 34]⟩ : ByteArray)] from rfl) (Reps.one (show Kd.M Kd.string _ _ _ (⟨#[32, 34, 34]⟩ : ByteArray) [.string (⟨#[32, 34, 34]⟩ : ByteArray)] from rfl) (Reps.none _ _))))))))))))); intro v1 w1 ho1 hb1 hg1 hnew1; clear hg1 hnew1; rw [← HY.out] at ho1; obtain ⟨A1, c1, eo1⟩ := Kd.R_slice ho1; subst eo1; have HO1 := Lib.hid ho1; clear ho1)
      have hz1 := hbw.trans (hb1.mono hbw.size)
      have HC1 := Lib.hid (Kd.R_reads' HO1.out).2.2
      clear hbw hb1 HO1 HY
      go_loopw [10] (fun v10 wr => ∃ j : Nat, v10 = .int .i64 j ∧ j ≤ 11 ∧ Below w1.heap.size w1 wr) (fun v _ => 11 - (intOf v).toNat)
      case atStart => exact ⟨0, rfl, by omega, Below.refl _ _⟩
      case round =>
        obtain ⟨j, rfl, hj, hbj⟩ := hrel
        have hyl1 : y.length ≤ 11 := Nat.le_of_eq HYL.out
        have hyl2 : 11 ≤ y.length := Nat.le_of_eq HYL.out.symm
        by_cases hjy : j < y.length
        · obtain ⟨ad, eA, h0⟩ := at_S HC1.out j hjy
          subst eA
          have h0' := pw_cell_below hbj h0
          have RX := Lib.hid (calls_reads (HX.out j hjy).2 (HX.out j hjy).1 wr)
          generalize y[j] = s at *
          clear h0
          go_wp2_with fail
          refine RX.out.mono ?_
          clear RX
          rintro en w2 ⟨rfl, hb2⟩
          have hbj2 := hbj.trans (hb2.mono hbj.size)
          clear hbj hb2 h0'
          go_wp2
          go_roundw
          case rel => exact ⟨j + 1, by go_num, by omega, hbj2⟩
          case measure => simp [intOf]; omega
        · have hz2 := hz1.trans (hbj.mono hz1.size)
          clear hbj
          have RA := Lib.hid (calls_reads (s := ⟨#[34, 92, 34, 34]⟩) (want := ⟨#[34]⟩) (ok := true) (by decide) (by kernel_rfl))
          have RB := Lib.hid (calls_reads (s := ⟨#[34, 34]⟩) (want := ⟨#[]⟩) (ok := true) (by decide) (by kernel_rfl))
          go_wp2_with fail
          refine (RA.out _).mono ?_
          rintro en w3 ⟨rfl, hb3⟩
          have hz3 := hz2.trans (hb3.mono hz2.size)
          go_wp2_with fail
          refine (RB.out _).mono ?_
          rintro en w4 ⟨rfl, hb4⟩
          have hz4 := hz3.trans (hb4.mono hz3.size)
          have W5 := works_calls w4 (HE.out.below hz4)
          go_wp2_with fail
          refine W5.mono ?_
          rintro en w5 ⟨rfl, hb5⟩
          go_wp2
          go_ret
          exact ⟨rfl, hz4.trans (hb5.mono hz4.size)⟩
end Go.Proofs.YtkanfffbdegfoaaDoor.PD
