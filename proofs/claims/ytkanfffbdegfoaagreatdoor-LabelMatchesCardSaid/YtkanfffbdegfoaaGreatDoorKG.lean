/- The contracts of slices.IndexFunc and ContainsFunc at strings, of label.asked: what they tell. No condition beyond what each states. The contracts of what a matcher asks (label.takes, four), of label.Check and label.Match: what they tell. No condition beyond what each states. The small functions of the laws, in plain words: few, short, Within, EqLabels, label.Equal. No condition beyond what each states. The contract of label.Match: what it tells. No condition beyond what it states. -/
import Derived.Test.YtkanfffbdegfoaaGreatDoorKF
import Derived.Test.YtkanfffbdegfoaaGreatDoorPGa
namespace Go.Proofs.YtkanfffbdegfoaaGreatDoor.PD
set_option linter.unusedVariables false
set_option linter.unusedSimpArgs false
section
open Go.RowKit Go.Proofs.YtkanfffbdegfoaaGreatDoorW.PrintWords Go.Proofs.YtkanfffbdegfoaaGreatDoorW.PrintLast Go.Proofs.YtkanfffbdegfoaaGreatDoorW.PrintMore

theorem at_S {w : World} {A : Option Addr} {xs : List ByteArray} (h : Kd.C Kd.string w A xs.length xs) (k : Nat) (hk : k < xs.length) : ∃ ad, A = some ad ∧ w.cell? (ad.add k) = some (.string xs[k]) := by
  obtain ⟨ad, cs, e, _, hK, hc0⟩ := Kd.C_get h (⟨#[]⟩ : ByteArray) (k : Int) (by omega) (by omega)
  have hg : xs.getD (k : Int).toNat ⟨#[]⟩ = xs[k] := by simp [List.getD_eq_getElem?_getD, List.getElem?_eq_getElem hk]
  rw [hg] at hK
  obtain rfl : cs = [.string xs[k]] := hK
  have := hc0 0 _ rfl
  exact ⟨ad, e, by simpa [Kd.string, Kd.scalar] using this⟩
def idxS (p : ByteArray → Bool) : List ByteArray → Nat → Int
  | [], _ => -1
  | x :: l, k => if p x then k else idxS p l (k + 1)
theorem idxS_ge (p : ByteArray → Bool) (l : List ByteArray) : ∀ k : Nat, -1 ≤ idxS p l k := by
  induction l with
  | nil => intro k; simp [idxS]
  | cons x l ih =>
    intro k
    rw [idxS]
    split
    · omega
    · exact ih _
theorem idxS_any (p : ByteArray → Bool) (l : List ByteArray) : ∀ k : Nat, decide (0 ≤ idxS p l k) = l.any p := by
  induction l with
  | nil => intro k; simp [idxS]
  | cons x l ih =>
    intro k
    rw [idxS, List.any_cons]
    cases h : p x
    · simpa using ih (k + 1)
    · simp
set_option maxHeartbeats 1000000 in
set_option maxRecDepth 100000 in
theorem indexS_calls (g : Nat) (cb : Array Value) (p : ByteArray → Bool) (A0 : Option Addr) (c0 : Nat) (l0 : List ByteArray) (w : World) (hr0 : Kd.C Kd.string w A0 l0.length l0) (hlen : l0.length ≤ 140737488355328)
    (he : ∀ (args : Array Value) (w : World), (callFunc g args).run Tryz.prog w = .ok (.enter g args) w)
    (hp : ∀ (x : ByteArray) (W : World), Below w.heap.size w W → Calls Tryz.prog g (#[.string x] ++ cb) W fun e w' => e = .returned (.bool (p x)) ∧ Below W.heap.size W w') :
    Calls Tryz.prog 181 #[.slice A0 l0.length c0, .func (.func g) #[] cb] w fun e w' => e = .returned (.int .i64 (idxS p l0 0)) ∧ Below w.heap.size w w' := by
  have HP := Lib.hid hp
  have HR := Lib.hid hr0
  clear hp hr0
  go_enter Tryz.func181, Tryz.ntmps181
  go_wp2_with fail
  go_loopw [8] (fun v wr => ∃ k : Nat, v = .int .i64 k ∧ k ≤ l0.length ∧ Hid (idxS p l0 0 = idxS p (l0.drop k) k) ∧ Below w.heap.size w wr) (fun v _ => l0.length - (intOf v).toNat)
  case atStart => exact ⟨0, rfl, by omega, Lib.hid rfl, Below.refl _ _⟩
  case round =>
    obtain ⟨k, rfl, hk, hi, hbw⟩ := hrel
    by_cases hlt : k < l0.length
    · obtain ⟨ad, rfl, h0⟩ := at_S HR.out k hlt
      have h0' := pw_cell_below hbw h0
      clear h0
      go_wp2_with fail
      refine (HP.out l0[k] wr hbw).mono ?_
      rintro e w1 ⟨rfl, hb1⟩
      have hbw1 := hbw.trans (hb1.mono hbw.size)
      have hdrop : l0.drop k = l0[k] :: l0.drop (k + 1) := List.drop_eq_getElem_cons hlt
      cases hpk : p l0[k]
      · have HK := Lib.hid hpk
        have HDR := Lib.hid hdrop
        clear hpk hdrop
        go_wp2
        go_roundw
        case rel =>
          refine ⟨k + 1, by go_num, by omega, ?_, hbw1⟩
          rw [hi.out, HDR.out, idxS, HK.out]
          exact Lib.hid rfl
        case measure => simp [intOf]; omega
      · have HK := Lib.hid hpk
        have HDR := Lib.hid hdrop
        clear hpk hdrop
        go_wp2
        go_ret
        refine ⟨?_, hbw1⟩
        rw [hi.out, HDR.out, idxS, HK.out]
        rfl
    · go_wp2
      go_ret
      refine ⟨?_, hbw⟩
      rw [hi.out, List.drop_eq_nil_of_le (by omega)]
      rfl
set_option maxHeartbeats 1000000 in
set_option maxRecDepth 100000 in
theorem containsS_calls (g : Nat) (cb : Array Value) (p : ByteArray → Bool) (A0 : Option Addr) (c0 : Nat) (l0 : List ByteArray) (w : World) (hr0 : Kd.C Kd.string w A0 l0.length l0) (hlen : l0.length ≤ 140737488355328)
    (he : ∀ (args : Array Value) (w : World), (callFunc g args).run Tryz.prog w = .ok (.enter g args) w)
    (hp : ∀ (x : ByteArray) (W : World), Below w.heap.size w W → Calls Tryz.prog g (#[.string x] ++ cb) W fun e w' => e = .returned (.bool (p x)) ∧ Below W.heap.size W w') :
    Calls Tryz.prog 149 #[.slice A0 l0.length c0, .func (.func g) #[] cb] w fun e w' => e = .returned (.bool (l0.any p)) ∧ Below w.heap.size w w' := by
  have C := Lib.hid (indexS_calls g cb p A0 c0 l0 w hr0 hlen he hp)
  rw [← idxS_any p l0 0]
  clear hp hr0 he
  revert C
  generalize idxS p l0 0 = k
  intro C
  go_enter Tryz.func149, Tryz.ntmps149
  go_wp2_with fail
  refine C.out.mono ?_
  rintro e w1 ⟨rfl, hb1⟩
  go_wp2
  go_ret
  exact ⟨rfl, hb1⟩
set_option maxHeartbeats 1000000 in
theorem asked1_calls (x : ByteArray) (w : World) : Calls Tryz.prog 148 #[.string x] w fun e w' => e = .returned (.bool (!valB x)) ∧ Below w.heap.size w w' := by
  have V := Lib.hid (val_calls x w)
  revert V
  generalize valB x = b
  intro V
  go_enter Tryz.func148, Tryz.ntmps148
  go_wp2_with fail
  refine V.out.mono ?_
  rintro e w1 ⟨rfl, hb1⟩
  go_wp2
  go_ret
  exact ⟨rfl, hb1⟩
theorem enter64 : ∀ (args : Array Value) (w : World), (callFunc 148 args).run Tryz.prog w = .ok (.enter 148 args) w := fun args w => by go_simp

/-- May a matcher not be, but for its kind? -/
def badM (m : S84) : Bool := !nameB m.f1 || !valB m.f2 || (m.f0 == 4 && m.f2.size != 0) || ((m.f0 == 4) != decide (0 < m.f3.length)) || decide (64 < m.f3.length) || m.f3.any (fun x => !valB x)
/-- What a matcher asks, as label.asked tells it. -/
def askV (m : S84) (A : Option Addr) (c : Nat) : Value :=
  if badM m = true then .nilIface else if m.f0 = 1 then .iface 147 (.string m.f2) else if m.f0 = 2 then .iface 148 (.string m.f2) else if m.f0 = 3 then .iface 149 (.string m.f2) else if m.f0 = 4 then .iface 150 (.slice A m.f3.length c) else .nilIface

set_option maxHeartbeats 4000000 in
set_option maxRecDepth 100000 in
theorem asked_calls (m : S84) (A : Option Addr) (c : Nat) (w : World) (hC : Kd.C Kd.string w A m.f3.length m.f3) (hlen : m.f3.length ≤ 140737488355328) :
    Calls Tryz.prog 86 #[.agg #[.int .i64 m.f0, .string m.f1, .string m.f2, .slice A m.f3.length c]] w fun e w' => e = .returned (askV m A c) ∧ Below w.heap.size w w' := by
  obtain ⟨k, n, v, l⟩ := m
  simp only at hC hlen ⊢
  generalize hres : askV ⟨k, n, v, l⟩ A c = res
  have HS := Lib.hid hres
  clear hres
  have hba := (Below.refl w.heap.size w).alloc (Nat.le_refl _) (.cells #[.int .i64 k, .string n, .string v, .slice A l.length c] 84)
  have hx : (w.alloc (.cells #[.int .i64 k, .string n, .string v, .slice A l.length c] 84)).heap[w.heap.size]? = some (.cells #[.int .i64 k, .string n, .string v, .slice A l.length c] 84 (0, 0)) := heap_alloc_new _ _
  have N1 := Lib.hid (name_calls n)
  have V1 := Lib.hid (val_calls v)
  cases hn : nameB n
  · have HE := Lib.hid (show res = .nilIface by rw [← HS.out, askV, if_pos (by simp [badM, hn])])
    rw [hn] at N1
    clear hn
    go_enter Tryz.func86, Tryz.ntmps86
    go_wp2_with fail
    refine (N1.out _).mono ?_
    rintro e w1 ⟨rfl, h1w⟩
    subst h1w
    go_wp2
    go_ret
    exact ⟨by rw [HE.out]; rfl, hba⟩
  · rw [hn] at N1
    cases hv : valB v
    · have HE := Lib.hid (show res = .nilIface by rw [← HS.out, askV, if_pos (by simp [badM, hv])])
      rw [hv] at V1
      clear hn hv
      go_enter Tryz.func86, Tryz.ntmps86
      go_wp2_with fail
      refine (N1.out _).mono ?_
      rintro e w1 ⟨rfl, h1w⟩
      subst h1w
      have hz0 := cell_at hx 0
      have hz2 := cell_at hx 2
      have hz3 := cell_at hx 3
      go_wp2_with fail
      refine (V1.out _).mono ?_
      rintro e w2 ⟨rfl, hb2⟩
      replace hx := (hb2.block w.heap.size (Array.getElem?_eq_some_iff.1 hx).1).trans hx
      have hbw := hba.trans (hb2.mono hba.size)
      clear hz0 hz2 hz3 hb2
      have hz0 := cell_at hx 0
      have hz2 := cell_at hx 2
      have hz3 := cell_at hx 3
      go_wp2
      go_ret
      exact ⟨by rw [HE.out]; rfl, hbw⟩
    · rw [hv] at V1
      by_cases hk4 : k = 4
      · subst hk4
        have hk4z : ((4 : Int) == 4) = true := rfl
        by_cases hz : v.size = 0
        · have hzv : (v.toList == []) = true := isEmpty_yes _ hz
          by_cases hl : 0 < l.length
          · have hlz : decide (0 < (l.length : Int)) = true := decide_eq_true (by omega)
            have hlz2 : decide (0 < l.length) = true := decide_eq_true hl
            by_cases h64 : 64 < l.length
            · have h64z : decide (64 < (l.length : Int)) = true := decide_eq_true (by omega)
              have h64z2 : decide (64 < l.length) = true := decide_eq_true h64
              have HE := Lib.hid (show res = .nilIface by rw [← HS.out, askV, if_pos (by simp [badM, h64])])
              clear hn hv hz hl h64
              go_enter Tryz.func86, Tryz.ntmps86
              go_wp2_with fail
              refine (N1.out _).mono ?_
              rintro e w1 ⟨rfl, h1w⟩
              subst h1w
              have hz0 := cell_at hx 0
              have hz2 := cell_at hx 2
              have hz3 := cell_at hx 3
              go_wp2_with fail
              refine (V1.out _).mono ?_
              rintro e w2 ⟨rfl, hb2⟩
              replace hx := (hb2.block w.heap.size (Array.getElem?_eq_some_iff.1 hx).1).trans hx
              have hbw := hba.trans (hb2.mono hba.size)
              clear hz0 hz2 hz3 hb2
              have hz0 := cell_at hx 0
              have hz2 := cell_at hx 2
              have hz3 := cell_at hx 3
              go_wp2
              go_ret
              exact ⟨by rw [HE.out]; rfl, hbw⟩
            · have h64z : decide (64 < (l.length : Int)) = false := decide_eq_false (by omega)
              have h64z2 : decide (64 < l.length) = false := decide_eq_false h64
              cases ha : l.any (fun x => !valB x)
              · have HE := Lib.hid (show res = .iface 150 (.slice A l.length c) by
                  rw [← HS.out, askV, if_neg (by simp only [badM, hn, hv, hk4z, hz, hlz2, h64z2, ha]; decide), if_neg (by simp only; omega), if_neg (by simp only; omega), if_neg (by simp only; omega), if_pos rfl])
                have HA := Lib.hid ha
                clear hn hv hz hl h64 ha
                go_enter Tryz.func86, Tryz.ntmps86
                go_wp2_with fail
                refine (N1.out _).mono ?_
                rintro e w1 ⟨rfl, h1w⟩
                subst h1w
                have hz0 := cell_at hx 0
                have hz2 := cell_at hx 2
                have hz3 := cell_at hx 3
                go_wp2_with fail
                refine (V1.out _).mono ?_
                rintro e w2 ⟨rfl, hb2⟩
                replace hx := (hb2.block w.heap.size (Array.getElem?_eq_some_iff.1 hx).1).trans hx
                have hbw := hba.trans (hb2.mono hba.size)
                clear hz0 hz2 hz3 hb2
                have hz0 := cell_at hx 0
                have hz2 := cell_at hx 2
                have hz3 := cell_at hx 3
                have C := Lib.hid (containsS_calls 148 #[] (fun x => !valB x) A c l w2 (Kd.C_below hC hbw) hlen enter64 (fun x W _ => asked1_calls x W))
                go_wp2_with fail
                refine C.out.mono ?_
                rintro e w3 ⟨rfl, hb3⟩
                replace hx := (hb3.block w.heap.size (Array.getElem?_eq_some_iff.1 hx).1).trans hx
                have hbw3 := hbw.trans (hb3.mono hbw.size)
                clear hz0 hz2 hz3 hb3 C
                have hz0 := cell_at hx 0
                have hz2 := cell_at hx 2
                have hz3 := cell_at hx 3
                rw [HA.out]
                go_wp2
                go_ret
                exact ⟨by rw [HE.out]; rfl, hbw3⟩
              · have HE := Lib.hid (show res = .nilIface by rw [← HS.out, askV, if_pos (by simp only [badM, ha, Bool.or_true])])
                have HA := Lib.hid ha
                clear hn hv hz hl h64 ha
                go_enter Tryz.func86, Tryz.ntmps86
                go_wp2_with fail
                refine (N1.out _).mono ?_
                rintro e w1 ⟨rfl, h1w⟩
                subst h1w
                have hz0 := cell_at hx 0
                have hz2 := cell_at hx 2
                have hz3 := cell_at hx 3
                go_wp2_with fail
                refine (V1.out _).mono ?_
                rintro e w2 ⟨rfl, hb2⟩
                replace hx := (hb2.block w.heap.size (Array.getElem?_eq_some_iff.1 hx).1).trans hx
                have hbw := hba.trans (hb2.mono hba.size)
                clear hz0 hz2 hz3 hb2
                have hz0 := cell_at hx 0
                have hz2 := cell_at hx 2
                have hz3 := cell_at hx 3
                have C := Lib.hid (containsS_calls 148 #[] (fun x => !valB x) A c l w2 (Kd.C_below hC hbw) hlen enter64 (fun x W _ => asked1_calls x W))
                go_wp2_with fail
                refine C.out.mono ?_
                rintro e w3 ⟨rfl, hb3⟩
                have hbw3 := hbw.trans (hb3.mono hbw.size)
                rw [HA.out]
                go_wp2
                go_ret
                exact ⟨by rw [HE.out]; rfl, hbw3⟩
          · have hlz : decide (0 < (l.length : Int)) = false := decide_eq_false (by omega)
            have hlz2 : decide (0 < l.length) = false := decide_eq_false hl
            have HE := Lib.hid (show res = .nilIface by rw [← HS.out, askV, if_pos (by simp [badM, hk4z, hl])])
            clear hn hv hz hl
            go_enter Tryz.func86, Tryz.ntmps86
            go_wp2_with fail
            refine (N1.out _).mono ?_
            rintro e w1 ⟨rfl, h1w⟩
            subst h1w
            have hz0 := cell_at hx 0
            have hz2 := cell_at hx 2
            have hz3 := cell_at hx 3
            go_wp2_with fail
            refine (V1.out _).mono ?_
            rintro e w2 ⟨rfl, hb2⟩
            replace hx := (hb2.block w.heap.size (Array.getElem?_eq_some_iff.1 hx).1).trans hx
            have hbw := hba.trans (hb2.mono hba.size)
            clear hz0 hz2 hz3 hb2
            have hz0 := cell_at hx 0
            have hz2 := cell_at hx 2
            have hz3 := cell_at hx 3
            go_wp2
            go_ret
            exact ⟨by rw [HE.out]; rfl, hbw⟩
        · have hzv : (v.toList == []) = false := isEmpty_no _ hz
          have HE := Lib.hid (show res = .nilIface by rw [← HS.out, askV, if_pos (by simp [badM, hk4z, hz])])
          clear hn hv hz
          go_enter Tryz.func86, Tryz.ntmps86
          go_wp2_with fail
          refine (N1.out _).mono ?_
          rintro e w1 ⟨rfl, h1w⟩
          subst h1w
          have hz0 := cell_at hx 0
          have hz2 := cell_at hx 2
          have hz3 := cell_at hx 3
          go_wp2_with fail
          refine (V1.out _).mono ?_
          rintro e w2 ⟨rfl, hb2⟩
          replace hx := (hb2.block w.heap.size (Array.getElem?_eq_some_iff.1 hx).1).trans hx
          have hbw := hba.trans (hb2.mono hba.size)
          clear hz0 hz2 hz3 hb2
          have hz0 := cell_at hx 0
          have hz2 := cell_at hx 2
          have hz3 := cell_at hx 3
          go_wp2
          go_ret
          exact ⟨by rw [HE.out]; rfl, hbw⟩
      · have hk4z : (k == 4) = false := by simp [hk4]
        by_cases hl : 0 < l.length
        · have hlz : decide (0 < (l.length : Int)) = true := decide_eq_true (by omega)
          have hlz2 : decide (0 < l.length) = true := decide_eq_true hl
          have HE := Lib.hid (show res = .nilIface by rw [← HS.out, askV, if_pos (by simp [badM, hk4z, hl])])
          clear hn hv hl hk4
          go_enter Tryz.func86, Tryz.ntmps86
          go_wp2_with fail
          refine (N1.out _).mono ?_
          rintro e w1 ⟨rfl, h1w⟩
          subst h1w
          have hz0 := cell_at hx 0
          have hz2 := cell_at hx 2
          have hz3 := cell_at hx 3
          go_wp2_with fail
          refine (V1.out _).mono ?_
          rintro e w2 ⟨rfl, hb2⟩
          replace hx := (hb2.block w.heap.size (Array.getElem?_eq_some_iff.1 hx).1).trans hx
          have hbw := hba.trans (hb2.mono hba.size)
          clear hz0 hz2 hz3 hb2
          have hz0 := cell_at hx 0
          have hz2 := cell_at hx 2
          have hz3 := cell_at hx 3
          go_wp2
          go_ret
          exact ⟨by rw [HE.out]; rfl, hbw⟩
        · have hl0 : l = [] := List.eq_nil_of_length_eq_zero (by omega)
          have hlz : decide (0 < (l.length : Int)) = false := decide_eq_false (by omega)
          have hlz2 : decide (0 < l.length) = false := decide_eq_false hl
          have h64z : decide (64 < (l.length : Int)) = false := decide_eq_false (by omega)
          have h64z2 : decide (64 < l.length) = false := decide_eq_false (by omega)
          have hb0 : badM ⟨k, n, v, l⟩ = false := by
            rw [hl0]
            simp [badM, hn, hv, hk4]
          have HA := Lib.hid (show l.any (fun x => !valB x) = false by rw [hl0]; rfl)
          have HE := Lib.hid (show res = (if k = 1 then .iface 147 (.string v) else if k = 2 then .iface 148 (.string v) else if k = 3 then .iface 149 (.string v) else .nilIface) by
            rw [← HS.out, askV, hb0, if_neg (by decide)]
            simp only
            rw [if_neg hk4])
          clear hn hv hl hl0 hb0
          go_enter Tryz.func86, Tryz.ntmps86
          go_wp2_with fail
          refine (N1.out _).mono ?_
          rintro e w1 ⟨rfl, h1w⟩
          subst h1w
          have hz0 := cell_at hx 0
          have hz2 := cell_at hx 2
          have hz3 := cell_at hx 3
          go_wp2_with fail
          refine (V1.out _).mono ?_
          rintro e w2 ⟨rfl, hb2⟩
          replace hx := (hb2.block w.heap.size (Array.getElem?_eq_some_iff.1 hx).1).trans hx
          have hbw := hba.trans (hb2.mono hba.size)
          clear hz0 hz2 hz3 hb2
          have hz0 := cell_at hx 0
          have hz2 := cell_at hx 2
          have hz3 := cell_at hx 3
          have C := Lib.hid (containsS_calls 148 #[] (fun x => !valB x) A c l w2 (Kd.C_below hC hbw) hlen enter64 (fun x W _ => asked1_calls x W))
          go_wp2_with fail
          refine C.out.mono ?_
          rintro e w3 ⟨rfl, hb3⟩
          replace hx := (hb3.block w.heap.size (Array.getElem?_eq_some_iff.1 hx).1).trans hx
          have hbw3 := hbw.trans (hb3.mono hbw.size)
          clear hz0 hz2 hz3 hb3 C
          have hz0 := cell_at hx 0
          have hz2 := cell_at hx 2
          have hz3 := cell_at hx 3
          rw [HA.out]
          by_cases hk1 : k = 1
          · subst hk1
            go_wp2
            go_ret
            exact ⟨by rw [HE.out]; rfl, hbw3⟩
          · by_cases hk2 : k = 2
            · subst hk2
              go_wp2
              go_ret
              exact ⟨by rw [HE.out]; rfl, hbw3⟩
            · by_cases hk3 : k = 3
              · subst hk3
                go_wp2
                go_ret
                exact ⟨by rw [HE.out]; rfl, hbw3⟩
              · have hk1z : (k == 1) = false := by simp [hk1]
                have hk2z : (k == 2) = false := by simp [hk2]
                have hk3z : (k == 3) = false := by simp [hk3]
                replace HE := Lib.hid (show res = .nilIface by rw [HE.out, if_neg hk1, if_neg hk2, if_neg hk3])
                clear hk1 hk2 hk3
                go_wp2
                go_ret
                exact ⟨by rw [HE.out]; rfl, hbw3⟩
end
section
open Go.RowKit Go.Proofs.YtkanfffbdegfoaaGreatDoorW.PrintWords Go.Proofs.YtkanfffbdegfoaaGreatDoorW.PrintLast Go.Proofs.YtkanfffbdegfoaaGreatDoorW.PrintMore

set_option maxHeartbeats 1000000 in
theorem equal_takes (a v : ByteArray) (w : World) : Calls Tryz.prog 232 #[.string a, .string v] w fun e w' => e = .returned (.bool (v.toList == a.toList)) ∧ w' = w := by
  go_enter Tryz.func232, Tryz.ntmps232
  go_wp2
  go_ret
  exact ⟨rfl, rfl⟩
set_option maxHeartbeats 1000000 in
theorem unlike_takes (a v : ByteArray) (w : World) : Calls Tryz.prog 233 #[.string a, .string v] w fun e w' => e = .returned (.bool (!(v.toList == a.toList))) ∧ w' = w := by
  go_enter Tryz.func233, Tryz.ntmps233
  go_wp2
  go_ret
  exact ⟨rfl, rfl⟩
set_option maxHeartbeats 1000000 in
theorem begins_takes (a v : ByteArray) (w : World) : Calls Tryz.prog 234 #[.string a, .string v] w fun e w' => e = .returned (.bool (Lib.hasPrefix v.data.toList a.data.toList)) ∧ w' = w := by
  have C := Lib.hid (Tryz.strings_HasPrefix v a w)
  revert C
  generalize Lib.hasPrefix v.data.toList a.data.toList = b
  intro C
  go_enter Tryz.func234, Tryz.ntmps234
  go_wp2_with fail
  refine C.out.mono ?_
  rintro e w' ⟨rfl, rfl⟩
  go_wp2
  go_ret
  exact ⟨rfl, rfl⟩
set_option maxHeartbeats 1000000 in
set_option maxRecDepth 100000 in
theorem indexV_calls (v : ByteArray) (A0 : Option Addr) (c0 : Nat) (l0 : List ByteArray) (w : World) (hr0 : Kd.C Kd.string w A0 l0.length l0) (hlen : l0.length ≤ 140737488355328) :
    Calls Tryz.prog 237 #[.slice A0 l0.length c0, .string v] w fun e w' => e = .returned (.int .i64 (idxS (fun x => v.toList == x.toList) l0 0)) ∧ w' = w := by
  have HR := Lib.hid hr0
  clear hr0
  generalize hp : (fun x : ByteArray => v.toList == x.toList) = p
  have HP := Lib.hid hp
  clear hp
  go_enter Tryz.func237, Tryz.ntmps237
  go_wp2_with fail
  go_loop [8] (fun v => ∃ k : Nat, v = .int .i64 k ∧ k ≤ l0.length ∧ Hid (idxS p l0 0 = idxS p (l0.drop k) k)) (fun v => l0.length - (intOf v).toNat)
  case atStart => exact ⟨0, rfl, by omega, Lib.hid rfl⟩
  case round =>
    obtain ⟨k, rfl, hk, hi⟩ := hrel
    by_cases hlt : k < l0.length
    · obtain ⟨ad, rfl, h0⟩ := at_S HR.out k hlt
      have hdrop : l0.drop k = l0[k] :: l0.drop (k + 1) := List.drop_eq_getElem_cons hlt
      have HDR := Lib.hid hdrop
      clear hdrop
      cases hpk : (v.toList == l0[k].toList)
      · have HK := Lib.hid (show p l0[k] = false by rw [← HP.out]; exact hpk)
        go_wp2
        go_round
        case rel =>
          refine ⟨k + 1, by go_num, by omega, ?_⟩
          rw [hi.out, HDR.out, idxS, HK.out]
          exact Lib.hid rfl
        case measure => simp [intOf]; omega
      · have HK := Lib.hid (show p l0[k] = true by rw [← HP.out]; exact hpk)
        go_wp2
        go_ret
        refine ⟨?_, rfl⟩
        rw [hi.out, HDR.out, idxS, HK.out]
        rfl
    · go_wp2
      go_ret
      refine ⟨?_, rfl⟩
      rw [hi.out, List.drop_eq_nil_of_le (by omega)]
      rfl
set_option maxHeartbeats 1000000 in
set_option maxRecDepth 100000 in
theorem containsV_calls (v : ByteArray) (A0 : Option Addr) (c0 : Nat) (l0 : List ByteArray) (w : World) (hr0 : Kd.C Kd.string w A0 l0.length l0) (hlen : l0.length ≤ 140737488355328) :
    Calls Tryz.prog 236 #[.slice A0 l0.length c0, .string v] w fun e w' => e = .returned (.bool (l0.any fun x => v.toList == x.toList)) ∧ w' = w := by
  have C := Lib.hid (indexV_calls v A0 c0 l0 w hr0 hlen)
  rw [← idxS_any _ l0 0]
  clear hr0
  revert C
  generalize idxS (fun x => v.toList == x.toList) l0 0 = k
  intro C
  go_enter Tryz.func236, Tryz.ntmps236
  go_wp2_with fail
  refine C.out.mono ?_
  rintro e w1 ⟨rfl, h1w⟩
  subst h1w
  go_wp2
  go_ret
  exact ⟨rfl, rfl⟩
set_option maxHeartbeats 1000000 in
set_option maxRecDepth 100000 in
theorem oneOf_takes (v : ByteArray) (A0 : Option Addr) (c0 : Nat) (l0 : List ByteArray) (w : World) (hr0 : Kd.C Kd.string w A0 l0.length l0) (hlen : l0.length ≤ 140737488355328) :
    Calls Tryz.prog 235 #[.slice A0 l0.length c0, .string v] w fun e w' => e = .returned (.bool (l0.any fun x => v.toList == x.toList)) ∧ w' = w := by
  have C := Lib.hid (containsV_calls v A0 c0 l0 w hr0 hlen)
  clear hr0
  revert C
  generalize (l0.any fun x => v.toList == x.toList) = k
  intro C
  go_enter Tryz.func235, Tryz.ntmps235
  go_wp2_with fail
  refine C.out.mono ?_
  rintro e w1 ⟨rfl, h1w⟩
  subst h1w
  go_wp2
  go_ret
  exact ⟨rfl, rfl⟩

/-- label.Check. -/
def checkV (m : S84) : Int := if badM m = false ∧ 1 ≤ m.f0 ∧ m.f0 ≤ 4 then 0 else 135
theorem askV_kinds (m : S84) (A : Option Addr) (c : Nat) : (askV m A c = .nilIface ∧ checkV m = 135) ∨ (∃ T v, askV m A c = .iface T v ∧ checkV m = 0 ∧ (T = 147 ∨ T = 148 ∨ T = 149 ∨ T = 150)) := by
  unfold askV checkV
  cases hb : badM m
  · simp only [Bool.false_eq_true, if_false, true_and]
    by_cases h1 : m.f0 = 1
    · exact Or.inr ⟨147, _, by rw [if_pos h1], by rw [if_pos (by omega)], by simp⟩
    · rw [if_neg h1]
      by_cases h2 : m.f0 = 2
      · exact Or.inr ⟨148, _, by rw [if_pos h2], by rw [if_pos (by omega)], by simp⟩
      · rw [if_neg h2]
        by_cases h3 : m.f0 = 3
        · exact Or.inr ⟨149, _, by rw [if_pos h3], by rw [if_pos (by omega)], by simp⟩
        · rw [if_neg h3]
          by_cases h4 : m.f0 = 4
          · exact Or.inr ⟨150, _, by rw [if_pos h4], by rw [if_pos (by omega)], by simp⟩
          · rw [if_neg h4]
            exact Or.inl ⟨rfl, by rw [if_neg (by omega)]⟩
  · exact Or.inl ⟨by simp, by simp⟩
set_option maxHeartbeats 2000000 in
set_option maxRecDepth 100000 in
theorem check_calls (m : S84) (A : Option Addr) (c : Nat) (w : World) (hC : Kd.C Kd.string w A m.f3.length m.f3) (hlen : m.f3.length ≤ 140737488355328) :
    Calls Tryz.prog 34 #[.agg #[.int .i64 m.f0, .string m.f1, .string m.f2, .slice A m.f3.length c]] w fun e w' => e = .returned (.int .i64 (checkV m)) ∧ Below w.heap.size w w' := by
  have hba := (Below.refl w.heap.size w).alloc (Nat.le_refl _) (.cells #[.int .i64 m.f0, .string m.f1, .string m.f2, .slice A m.f3.length c] 84)
  have C := asked_calls m A c (w.alloc (.cells #[.int .i64 m.f0, .string m.f1, .string m.f2, .slice A m.f3.length c] 84)) (Kd.C_below hC hba) hlen
  have HBA := Lib.hid hba
  clear hba hC
  rcases askV_kinds m A c with ⟨h1, h2⟩ | ⟨T, v, h1, h2, h3⟩
  · rw [h1] at C
    rw [h2]
    have HC := Lib.hid C
    clear C h1 h2
    go_enter Tryz.func34, Tryz.ntmps34
    go_wp2_with fail
    refine HC.out.mono ?_
    rintro e w1 ⟨rfl, hb1⟩
    go_wp2
    go_ret
    exact ⟨rfl, HBA.out.trans (hb1.mono HBA.out.size)⟩
  · rw [h1] at C
    rw [h2]
    have HC := Lib.hid C
    clear C h1 h2
    go_enter Tryz.func34, Tryz.ntmps34
    go_wp2_with fail
    refine HC.out.mono ?_
    rintro e w1 ⟨rfl, hb1⟩
    go_wp2
    go_ret
    exact ⟨rfl, HBA.out.trans (hb1.mono HBA.out.size)⟩
end
section
open Go.RowKit Go.Proofs.YtkanfffbdegfoaaGreatDoorW.PrintWords Go.Proofs.YtkanfffbdegfoaaGreatDoorW.PrintLast Go.Proofs.YtkanfffbdegfoaaGreatDoorW.PrintMore

/-- A text, cut. -/
def shortS (s : ByteArray) : ByteArray := if 3000 < s.size then s.extract 0 3000 else s
theorem shortS_le (s : ByteArray) : (shortS s).size ≤ 3000 := by
  unfold shortS
  split
  · simp
    omega
  · omega
theorem short_f (s : ByteArray) : fathomlaw13_short.f s = some (shortS s) := by
  unfold fathomlaw13_short.f shortS
  by_cases h : 3000 < s.size
  · rw [if_pos (by omega), if_pos (by omega), if_pos (by omega), if_pos h]
  · rw [if_neg (by omega), if_neg h]
theorem below_drawn {w w' : World} {B : Nat} (h : Drawn0 w w') : Below B w w' := by
  obtain ⟨n, rfl⟩ := h
  exact pw_below_drewN (Below.refl B w) n
theorem short_calls (s : ByteArray) (w : World) : Calls Tryz.prog 9 #[.string s] w fun e w' => e = .returned (.string (shortS s)) ∧ Below w.heap.size w w' :=
  (fathomlaw13_short.calls s _ w (short_f s)).mono fun _ _ ⟨he, hd⟩ => ⟨he, below_drawn hd⟩
def shL (x : S130) : S130 := ⟨shortS x.f0, shortS x.f1⟩
/-- Labels, cut. -/
def fewL (l : List S130) : List S130 := (l.take 60).map shL
theorem rd27_at (l : List S130) (i : Nat) (h : i < l.length) : rd_T130 l (i : Int) = l[i] := by simp [rd_T130, List.getD_eq_getElem?_getD, List.getElem?_eq_getElem h]
theorem few_loop (l : List S130) : ∀ (d i : Nat) (acc : List S130) (k : Nat), 60 - i ≤ d → acc.length ≤ i → i ≤ 60 → 2 * d + 2 ≤ k → fathomlaw13_few.l0 k l acc (i : Int) = some (acc ++ ((l.drop i).take (60 - i)).map shL)
  | d, i, acc, k, hd, ha, hi, hk => by
    obtain ⟨k, rfl⟩ : ∃ m, k = m + 2 := ⟨k - 2, by omega⟩
    by_cases h1 : i < l.length
    · rw [fathomlaw13_few.l0, if_pos (by omega), fathomlaw13_few.j1]
      by_cases h2 : i < 60
      · obtain ⟨d, rfl⟩ : ∃ m, d = m + 1 := ⟨d - 1, by omega⟩
        rw [if_pos (by simp; omega), if_pos (by omega), if_pos (by omega), short_f, short_f, rd27_at l i h1]
        simp only [Option.bind_some]
        rw [if_pos (by omega)]
        have e : wrap64 ((i : Int) + 1) = ((i + 1 : Nat) : Int) := by unfold wrap64; omega
        rw [e, few_loop l d (i + 1) _ k (by omega) (by simp; omega) (by omega) (by omega)]
        rw [List.drop_eq_getElem_cons h1, show 60 - i = (60 - (i + 1)) + 1 by omega, List.take_succ_cons, List.map_cons, List.append_assoc]
        rfl
      · rw [if_neg (by simp; omega), show 60 - i = 0 by omega]
        simp
    · rw [fathomlaw13_few.l0, if_neg (by omega), fathomlaw13_few.j1, if_neg (by decide), List.drop_eq_nil_of_le (by omega)]
      simp
theorem few_f (l : List S130) : fathomlaw13_few.f 200 l = some (fewL l) := by
  rw [fathomlaw13_few.f]
  have := few_loop l 60 0 [] 200 (by omega) (Nat.le_refl _) (by omega) (by omega)
  rw [show ((0 : Nat) : Int) = 0 from rfl] at this
  rw [this]
  simp [fewL]
theorem few_calls (A0 : Option Addr) (c0 : Nat) (l : List S130) (w : World) (hr0 : Kd.C k130 w A0 l.length l) (hc0 : l.length ≤ c0) :
    Calls Tryz.prog 19 #[.slice A0 l.length c0] w fun e w' => ∃ v, e = .returned v ∧ Kd.R k130 130 w' w.heap.size (fun _ => True) v (fewL l) ∧ Below w.heap.size w w' :=
  fathomlaw13_few.calls 200 A0 c0 l _ w hr0 hc0 (few_f l)
theorem fewL_len (l : List S130) : (fewL l).length ≤ 60 := by
  unfold fewL
  rw [List.length_map, List.length_take]
  omega
theorem fewL_short {l : List S130} {x : S130} (h : x ∈ fewL l) : x.f0.size ≤ 3000 ∧ x.f1.size ≤ 3000 := by
  obtain ⟨y, _, rfl⟩ := List.mem_map.1 h
  exact ⟨shortS_le _, shortS_le _⟩

/-- Are they the same? -/
def eqLB (l m : List S130) : Bool := decide (l.map (fun x => (x.f0.data.toList, x.f1.data.toList)) = m.map (fun x => (x.f0.data.toList, x.f1.data.toList)))
theorem s27_ext {x y : S130} (h0 : x.f0.data.toList = y.f0.data.toList) (h1 : x.f1.data.toList = y.f1.data.toList) : x = y := by
  cases x
  cases y
  simp only at h0 h1
  rw [ba_ext h0, ba_ext h1]
theorem eqLB_iff (l m : List S130) : eqLB l m = true ↔ l = m := by
  rw [eqLB, decide_eq_true_iff]
  constructor
  · intro h
    refine List.map_inj_right ?_ |>.1 h
    intro x y hxy
    injection hxy with h0 h1
    exact s27_ext h0 h1
  · rintro rfl
    rfl
theorem eqLB_self (l : List S130) : eqLB l l = true := (eqLB_iff l l).2 rfl
theorem nm_beq' (a b : ByteArray) : (a.toList == b.toList) = decide (a.data.toList = b.data.toList) := by
  rw [ByteArray.toList_eq, ByteArray.toList_eq]
  by_cases h : a.data.toList = b.data.toList
  · rw [h]; simp
  · rw [decide_eq_false h, beq_eq_false_iff_ne]; exact h
theorem two_beq (x y : S130) : ((!((x.f0.toList) == (y.f0.toList))) || (!((x.f1.toList) == (y.f1.toList)))) = true ↔ ¬ x = y := by
  rw [nm_beq', nm_beq', Bool.or_eq_true, Bool.not_eq_true', Bool.not_eq_true', decide_eq_false_iff_not, decide_eq_false_iff_not]
  constructor
  · rintro (h | h) rfl
    · exact h rfl
    · exact h rfl
  · intro h
    by_cases h0 : x.f0.data.toList = y.f0.data.toList
    · exact Or.inr fun h1 => h (s27_ext h0 h1)
    · exact Or.inl h0
theorem eq_loop (l m : List S130) (hlm : l.length = m.length) (hl : l.length < 4611686018427387904) : ∀ (d i k : Nat), l.length - i ≤ d → i ≤ l.length → d + 1 ≤ k → fathomref0_EqLabels.l0 k l m (i : Int) = some (eqLB (l.drop i) (m.drop i))
  | d, i, k, hd, hi, hk => by
    obtain ⟨k, rfl⟩ : ∃ n, k = n + 1 := ⟨k - 1, by omega⟩
    rw [fathomref0_EqLabels.l0]
    by_cases h1 : i < l.length
    · obtain ⟨d, rfl⟩ : ∃ n, d = n + 1 := ⟨d - 1, by omega⟩
      rw [if_pos (by omega), if_pos (by omega), if_pos (by omega), rd27_at l i h1, rd27_at m i (by omega), List.drop_eq_getElem_cons h1, List.drop_eq_getElem_cons (show i < m.length by omega)]
      by_cases hx : l[i] = m[i]
      · rw [if_neg (fun h => (two_beq _ _).1 h hx)]
        have e : wrap64 ((i : Int) + 1) = ((i + 1 : Nat) : Int) := by unfold wrap64; omega
        rw [e, eq_loop l m hlm hl d (i + 1) k (by omega) (by omega) (by omega)]
        congr 1
        rw [Bool.eq_iff_iff, eqLB_iff, eqLB_iff, hx]
        exact ⟨fun h => by rw [h], fun h => by injection h⟩
      · rw [if_pos ((two_beq _ _).2 hx)]
        congr 1
        symm
        rw [← Bool.not_eq_true, eqLB_iff]
        intro h
        injection h with h _
        exact hx h
    · rw [if_neg (by omega), List.drop_eq_nil_of_le (by omega), List.drop_eq_nil_of_le (by omega)]
      rfl
theorem eq_f (l m : List S130) (hl : l.length < 4611686018427387904) : fathomref0_EqLabels.f (l.length + 1) l m = some (eqLB l m) := by
  rw [fathomref0_EqLabels.f]
  by_cases h : l.length = m.length
  · rw [if_pos (by omega)]
    have := eq_loop l m h hl l.length 0 (l.length + 1) (by omega) (by omega) (by omega)
    exact this
  · rw [if_neg (by omega)]
    congr 1
    symm
    rw [← Bool.not_eq_true, eqLB_iff]
    rintro rfl
    exact h rfl
theorem eqLabels_calls (A0 : Option Addr) (c0 : Nat) (l : List S130) (A1 : Option Addr) (c1 : Nat) (m : List S130) (w : World) (hr0 : Kd.C k130 w A0 l.length l) (hc0 : l.length ≤ c0) (hr1 : Kd.C k130 w A1 m.length m) (hc1 : m.length ≤ c1) (hl : l.length < 4611686018427387904) :
    Calls Tryz.prog 17 #[.slice A0 l.length c0, .slice A1 m.length c1] w fun e w' => e = .returned (.bool (eqLB l m)) ∧ Below w.heap.size w w' :=
  (fathomref0_EqLabels.calls _ A0 c0 l A1 c1 m _ w hr0 hc0 hr1 hc1 (eq_f l m hl)).mono fun _ _ ⟨he, hd⟩ => ⟨he, below_drawn hd⟩
theorem eqs_loop (l m : List S130) (hlm : l.length = m.length) (hl : l.length < 4611686018427387904) : ∀ (d i k : Nat), l.length - i ≤ d → i ≤ l.length → d + 1 ≤ k → api_Label_102.l0 k l m (l.length : Int) (i : Int) = some (eqLB (l.drop i) (m.drop i))
  | d, i, k, hd, hi, hk => by
    obtain ⟨k, rfl⟩ : ∃ n, k = n + 1 := ⟨k - 1, by omega⟩
    rw [api_Label_102.l0]
    by_cases h1 : i < l.length
    · obtain ⟨d, rfl⟩ : ∃ n, d = n + 1 := ⟨d - 1, by omega⟩
      rw [if_pos (by omega), if_pos (by omega), if_pos (by omega), if_pos (by omega), rd27_at l i h1, rd27_at m i (by omega), List.drop_eq_getElem_cons h1, List.drop_eq_getElem_cons (show i < m.length by omega)]
      by_cases hx : l[i] = m[i]
      · rw [if_neg (fun h => (two_beq _ _).1 h hx)]
        have e : wrap64 ((i : Int) + 1) = ((i + 1 : Nat) : Int) := by unfold wrap64; omega
        rw [e, eqs_loop l m hlm hl d (i + 1) k (by omega) (by omega) (by omega)]
        congr 1
        rw [Bool.eq_iff_iff, eqLB_iff, eqLB_iff, hx]
        exact ⟨fun h => by rw [h], fun h => by injection h⟩
      · rw [if_pos ((two_beq _ _).2 hx)]
        congr 1
        symm
        rw [← Bool.not_eq_true, eqLB_iff]
        intro h
        injection h with h _
        exact hx h
    · rw [if_neg (by omega), List.drop_eq_nil_of_le (by omega), List.drop_eq_nil_of_le (by omega)]
      rfl
theorem equal_calls (A0 : Option Addr) (c0 : Nat) (l : List S130) (A1 : Option Addr) (c1 : Nat) (m : List S130) (w : World) (hr0 : Kd.C k130 w A0 l.length l) (hc0 : l.length ≤ c0) (hr1 : Kd.C k130 w A1 m.length m) (hc1 : m.length ≤ c1) (hl : l.length < 4611686018427387904) :
    Calls Tryz.prog 54 #[.slice A0 l.length c0, .slice A1 m.length c1] w fun e w' => e = .returned (.bool (eqLB l m)) ∧ Below w.heap.size w w' := by
  refine (label_Equal.calls (l.length + 1) A0 c0 l A1 c1 m (eqLB l m) w hr0 hc0 hr1 hc1 ?_).mono fun _ _ ⟨he, hd⟩ => ⟨he, below_drawn hd⟩
  rw [label_Equal.f, api_Label_102.f]
  by_cases h : l.length = m.length
  · rw [if_pos (by omega)]
    have := eqs_loop l m h hl l.length 0 (l.length + 1) (by omega) (by omega) (by omega)
    have this : api_Label_102.l0 (l.length + 1) l m (l.length : Int) 0 = some (eqLB l m) := this
    rw [this]
    rfl
  · rw [if_neg (by omega)]
    show some false = _
    congr 1
    symm
    rw [← Bool.not_eq_true, eqLB_iff]
    rintro rfl
    exact h rfl

theorem num_calls (e : Int) (w : World) : Calls Tryz.prog 14 #[.int .i64 e] w fun en w' => en = .returned (.int .i64 e) ∧ w' = w := by
  go_enter Tryz.func14, Tryz.ntmps14
  go_wp2
  go_ret
  exact ⟨rfl, rfl⟩
end
section
open Go.RowKit Go.Proofs.YtkanfffbdegfoaaGreatDoorW.PrintWords Go.Proofs.YtkanfffbdegfoaaGreatDoorW.PrintLast Go.Proofs.YtkanfffbdegfoaaGreatDoorW.PrintMore

/-- Does a matcher take a value? -/
def takesV (m : S84) (v : ByteArray) : Bool :=
  if m.f0 = 1 then v.toList == m.f2.toList else if m.f0 = 2 then !(v.toList == m.f2.toList) else if m.f0 = 3 then Lib.hasPrefix v.data.toList m.f2.data.toList else m.f3.any fun x => v.toList == x.toList
/-- label.Match. -/
def matchV (m : S84) (l : List S130) : Bool := checkV m == 0 && takesV m (getL l m.f1)

theorem nil112 (s : ByteArray) (w : World) : (nilAhead 391 147 (.string s) "fathom/label.takes").run Tryz.prog w = .ok (some false) w := by kernel_rfl
theorem nil113 (s : ByteArray) (w : World) : (nilAhead 391 148 (.string s) "fathom/label.takes").run Tryz.prog w = .ok (some false) w := by kernel_rfl
theorem nil114 (s : ByteArray) (w : World) : (nilAhead 391 149 (.string s) "fathom/label.takes").run Tryz.prog w = .ok (some false) w := by kernel_rfl
theorem nil115 (A : Option Addr) (n c : Nat) (w : World) : (nilAhead 391 150 (.slice A n c) "fathom/label.takes").run Tryz.prog w = .ok (some false) w := by kernel_rfl
theorem met112 (s : ByteArray) (w : World) : (method 391 147 (.string s) "fathom/label.takes").run Tryz.prog w = .ok (232, .string s) w := by kernel_rfl
theorem met113 (s : ByteArray) (w : World) : (method 391 148 (.string s) "fathom/label.takes").run Tryz.prog w = .ok (233, .string s) w := by kernel_rfl
theorem met114 (s : ByteArray) (w : World) : (method 391 149 (.string s) "fathom/label.takes").run Tryz.prog w = .ok (234, .string s) w := by kernel_rfl
theorem met115 (A : Option Addr) (n c : Nat) (w : World) : (method 391 150 (.slice A n c) "fathom/label.takes").run Tryz.prog w = .ok (235, .slice A n c) w := by kernel_rfl
theorem enter117 : ∀ (args : Array Value) (w : World), (callFunc 232 args).run Tryz.prog w = .ok (.enter 232 args) w := fun args w => by go_simp
theorem enter118 : ∀ (args : Array Value) (w : World), (callFunc 233 args).run Tryz.prog w = .ok (.enter 233 args) w := fun args w => by go_simp
theorem enter119 : ∀ (args : Array Value) (w : World), (callFunc 234 args).run Tryz.prog w = .ok (.enter 234 args) w := fun args w => by go_simp
theorem enter120 : ∀ (args : Array Value) (w : World), (callFunc 235 args).run Tryz.prog w = .ok (.enter 235 args) w := fun args w => by go_simp

set_option maxHeartbeats 4000000 in
set_option maxRecDepth 100000 in
theorem match_nil (m : S84) (A : Option Addr) (c : Nat) (A1 : Option Addr) (c1 n1 : Nat) (w : World)
    (C : Calls Tryz.prog 86 #[.agg #[.int .i64 m.f0, .string m.f1, .string m.f2, .slice A m.f3.length c]] (w.alloc (.cells #[.int .i64 m.f0, .string m.f1, .string m.f2, .slice A m.f3.length c] 84)) fun e w' => e = .returned .nilIface ∧ Below (w.alloc (.cells #[.int .i64 m.f0, .string m.f1, .string m.f2, .slice A m.f3.length c] 84)).heap.size (w.alloc (.cells #[.int .i64 m.f0, .string m.f1, .string m.f2, .slice A m.f3.length c] 84)) w') :
    Calls Tryz.prog 36 #[.agg #[.int .i64 m.f0, .string m.f1, .string m.f2, .slice A m.f3.length c], .slice A1 n1 c1] w fun e w' => e = .returned (.bool false) ∧ Below w.heap.size w w' := by
  have HBA := Lib.hid ((Below.refl w.heap.size w).alloc (Nat.le_refl _) (.cells #[.int .i64 m.f0, .string m.f1, .string m.f2, .slice A m.f3.length c] 84))
  have HC := Lib.hid C
  clear C
  go_enter Tryz.func36, Tryz.ntmps36
  go_wp2_with fail
  refine HC.out.mono ?_
  rintro e w1 ⟨rfl, hb1⟩
  go_upto_region 2 with (fail)
  refine wp_region_quiet_below w1.heap.size w1 (by kernel_rfl) (by kernel_rfl) (Below.refl _ _) ?_
  repeat go_big_quiet_step (fail)
  refine wpQuiet_nil ?_
  rintro _ ⟨⟨wq, hbq⟩, rfl⟩
  go_wp2
  go_ret
  exact ⟨rfl, (HBA.out.trans (hb1.mono HBA.out.size)).trans (hbq.mono (Nat.le_trans HBA.out.size hb1.size))⟩
set_option maxHeartbeats 4000000 in
set_option maxRecDepth 100000 in
theorem match_at (T : TypeId) (F : Nat) (v : Value) (r : Bool) (gv : ByteArray) (m : S84) (A : Option Addr) (c : Nat) (A1 : Option Addr) (c1 n1 : Nat) (w : World)
    (hN : ∀ W, (nilAhead 391 T v "fathom/label.takes").run Tryz.prog W = .ok (some false) W) (hM : ∀ W, (method 391 T v "fathom/label.takes").run Tryz.prog W = .ok (F, v) W)
    (he : ∀ (args : Array Value) (w : World), (callFunc F args).run Tryz.prog w = .ok (.enter F args) w)
    (C : Calls Tryz.prog 86 #[.agg #[.int .i64 m.f0, .string m.f1, .string m.f2, .slice A m.f3.length c]] (w.alloc (.cells #[.int .i64 m.f0, .string m.f1, .string m.f2, .slice A m.f3.length c] 84)) fun e w' => e = .returned (.iface T v) ∧ Below (w.alloc (.cells #[.int .i64 m.f0, .string m.f1, .string m.f2, .slice A m.f3.length c] 84)).heap.size (w.alloc (.cells #[.int .i64 m.f0, .string m.f1, .string m.f2, .slice A m.f3.length c] 84)) w')
    (G : ∀ W, Below w.heap.size w W → Calls Tryz.prog 80 #[.slice A1 n1 c1, .string m.f1] W fun e w' => e = .returned (.string gv) ∧ Below W.heap.size W w')
    (K : ∀ W, Below w.heap.size w W → Calls Tryz.prog F #[v, .string gv] W fun e w' => e = .returned (.bool r) ∧ w' = W) :
    Calls Tryz.prog 36 #[.agg #[.int .i64 m.f0, .string m.f1, .string m.f2, .slice A m.f3.length c], .slice A1 n1 c1] w fun e w' => e = .returned (.bool r) ∧ Below w.heap.size w w' := by
  have HBA := Lib.hid ((Below.refl w.heap.size w).alloc (Nat.le_refl _) (.cells #[.int .i64 m.f0, .string m.f1, .string m.f2, .slice A m.f3.length c] 84))
  have HX := Lib.hid (show (w.alloc (.cells #[.int .i64 m.f0, .string m.f1, .string m.f2, .slice A m.f3.length c] 84)).heap[w.heap.size]? = some (.cells #[.int .i64 m.f0, .string m.f1, .string m.f2, .slice A m.f3.length c] 84 (0, 0)) from heap_alloc_new _ _)
  have HC := Lib.hid C
  have HG := Lib.hid G
  have HK := Lib.hid K
  clear C G K
  go_enter Tryz.func36, Tryz.ntmps36
  go_wp2_with fail
  refine HC.out.mono ?_
  rintro e w1 ⟨rfl, hb1⟩
  go_upto_region 2 with (fail)
  have hbw := HBA.out.trans (hb1.mono HBA.out.size)
  have hx1 := (hb1.block w.heap.size (by rw [show (w.alloc _).heap.size = w.heap.size + 1 by simp]; omega)).trans HX.out
  have hc1' := cell_at hx1 1
  have LG := Lib.hid (fun (p : BelowAt w1.heap.size w1) => HG.out p.u (hbw.trans (p.h.mono hbw.size)))
  have LK := Lib.hid (fun (p : BelowAt w1.heap.size w1) => HK.out p.u (hbw.trans (p.h.mono hbw.size)))
  have L1 : ∀ p : BelowAt w1.heap.size w1, p.u.cell? ⟨w.heap.size, 1, none⟩ = some (.string m.f1) := fun p => pw_cell_below p.h hc1'
  clear hx1 hc1'
  have HBW := Lib.hid hbw
  clear hbw
  refine wp_region_quiet_below w1.heap.size w1 (by kernel_rfl) (by kernel_rfl) (Below.refl _ _) ?_
  repeat go_big_quiet_step (first | (go_at_call 80; exact calls_below_of (Nat.le_refl _) (LG.out _)) | (exact calls_below_same (LK.out _)))
  refine wpQuiet_nil ?_
  rintro _ ⟨⟨wq, hbq⟩, rfl⟩
  go_wp2
  go_ret
  exact ⟨rfl, HBW.out.trans (hbq.mono HBW.out.size)⟩
theorem match_calls (m : S84) (A : Option Addr) (c : Nat) (A1 : Option Addr) (c1 : Nat) (l : List S130) (w : World) (hC : Kd.C Kd.string w A m.f3.length m.f3) (hlen : m.f3.length ≤ 140737488355328) (hr : Kd.C k130 w A1 l.length l) (hc1 : l.length ≤ c1) (hl : l.length ≤ 140737488355328) :
    Calls Tryz.prog 36 #[.agg #[.int .i64 m.f0, .string m.f1, .string m.f2, .slice A m.f3.length c], .slice A1 l.length c1] w fun e w' => e = .returned (.bool (matchV m l)) ∧ Below w.heap.size w w' := by
  have hba := (Below.refl w.heap.size w).alloc (Nat.le_refl _) (.cells #[.int .i64 m.f0, .string m.f1, .string m.f2, .slice A m.f3.length c] 84)
  have C := asked_calls m A c (w.alloc (.cells #[.int .i64 m.f0, .string m.f1, .string m.f2, .slice A m.f3.length c] 84)) (Kd.C_below hC hba) hlen
  have G := fun (W : World) (hb : Below w.heap.size w W) => label_Get.calls A1 c1 l m.f1 (getL l m.f1) W (Kd.C_below hr hb) hc1 (by rw [label_Get.f, if_pos hl])
  have nil : badM m = true ∨ (badM m = false ∧ ¬ (1 ≤ m.f0 ∧ m.f0 ≤ 4)) → Calls Tryz.prog 36 #[.agg #[.int .i64 m.f0, .string m.f1, .string m.f2, .slice A m.f3.length c], .slice A1 l.length c1] w fun e w' => e = .returned (.bool (matchV m l)) ∧ Below w.heap.size w w' := by
    intro h
    have e : askV m A c = .nilIface := by
      unfold askV
      rcases h with h | ⟨h, h2⟩
      · rw [if_pos h]
      · rw [if_neg (by rw [h]; decide), if_neg (by omega), if_neg (by omega), if_neg (by omega), if_neg (by omega)]
    have e2 : matchV m l = false := by
      unfold matchV checkV
      rcases h with h | ⟨h, h2⟩
      · rw [if_neg (by rw [h]; simp)]; rfl
      · rw [if_neg (fun h3 => h2 h3.2)]; rfl
    rw [e2]
    rw [e] at C
    exact match_nil m A c A1 c1 l.length w C
  cases hb : badM m
  · by_cases hk : 1 ≤ m.f0 ∧ m.f0 ≤ 4
    · have e2 : matchV m l = takesV m (getL l m.f1) := by
        unfold matchV checkV
        rw [if_pos ⟨hb, hk⟩]
        simp
      rw [e2]
      have hA : askV m A c = if m.f0 = 1 then .iface 147 (.string m.f2) else if m.f0 = 2 then .iface 148 (.string m.f2) else if m.f0 = 3 then .iface 149 (.string m.f2) else if m.f0 = 4 then .iface 150 (.slice A m.f3.length c) else .nilIface := by
        unfold askV
        rw [hb, if_neg (by decide)]
      rw [hA] at C
      unfold takesV
      by_cases h1 : m.f0 = 1
      · rw [if_pos h1] at C ⊢
        exact match_at 147 232 _ _ _ m A c A1 c1 l.length w (nil112 _) (met112 _) enter117 C G (fun W _ => equal_takes _ _ W)
      · rw [if_neg h1] at C ⊢
        by_cases h2 : m.f0 = 2
        · rw [if_pos h2] at C ⊢
          exact match_at 148 233 _ _ _ m A c A1 c1 l.length w (nil113 _) (met113 _) enter118 C G (fun W _ => unlike_takes _ _ W)
        · rw [if_neg h2] at C ⊢
          by_cases h3 : m.f0 = 3
          · rw [if_pos h3] at C ⊢
            exact match_at 149 234 _ _ _ m A c A1 c1 l.length w (nil114 _) (met114 _) enter119 C G (fun W _ => begins_takes _ _ W)
          · rw [if_neg h3] at C ⊢
            rw [if_pos (by omega)] at C
            exact match_at 150 235 _ _ _ m A c A1 c1 l.length w (nil115 _ _ _) (met115 _ _ _) enter120 C G (fun W hW => oneOf_takes _ _ _ _ W (Kd.C_below hC hW) hlen)
    · exact nil (Or.inr ⟨hb, hk⟩)
  · exact nil (Or.inl hb)
end
end Go.Proofs.YtkanfffbdegfoaaGreatDoor.PD
