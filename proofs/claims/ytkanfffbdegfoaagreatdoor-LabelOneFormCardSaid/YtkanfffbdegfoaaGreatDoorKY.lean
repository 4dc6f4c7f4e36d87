/- The contracts of Eq, Less, sign, Copy and begins at their values: bytes compared, bytes copied, a list that begins another. Their conditions stand in each. fathomlaw13.LabelOneForm: it returns true; what was there is as it was. No condition but the environment's (the tables). fathomlaw13.LabelKeyed: it returns true; what was there is as it was. No condition but the environment's (the tables). -/
import Derived.Test.YtkanfffbdegfoaaGreatDoorPGc
import Derived.Test.YtkanfffbdegfoaaGreatDoorKX
import Derived.Test.YtkanfffbdegfoaaGreatDoorKU
import Derived.Test.YtkanfffbdegfoaaGreatDoorKP
namespace Go.Proofs.YtkanfffbdegfoaaGreatDoor.PD
set_option linter.unusedVariables false
set_option linter.unusedSimpArgs false
section
open Go.RowKit Go.Proofs.YtkanfffbdegfoaaGreatDoorW.PrintWords Go.Proofs.YtkanfffbdegfoaaGreatDoorW.PrintLast Go.Proofs.YtkanfffbdegfoaaGreatDoorW.PrintMore

theorem rd_ints (a : List UInt8) (i : Nat) (h : i < a.length) : rd (ints a) (i : Int) = (a[i].toNat : Int) := by
  rw [rd, Int.toNat_natCast]
  exact ints_getD a i h
theorem nat_eq {x y : UInt8} : ((x.toNat : Int) = (y.toNat : Int)) ↔ x = y := by
  rw [Int.natCast_inj]
  exact UInt8.toNat_inj
theorem eqB_loop (a b : List UInt8) (hab : a.length = b.length) (hn : a.length < 4611686018427387904) : ∀ (d i k : Nat), a.length - i ≤ d → i ≤ a.length → d + 1 ≤ k → fathomref0_Eq.l0 k (ints a) (ints b) (i : Int) = some (decide (a.drop i = b.drop i)) := by
  intro d
  induction d with
  | zero =>
    intro i k hd hi hk
    obtain ⟨k, rfl⟩ : ∃ m, k = m + 1 := ⟨k - 1, by omega⟩
    rw [fathomref0_Eq.l0, ints_length, ints_length, if_neg (by omega), List.drop_eq_nil_of_le (by omega), List.drop_eq_nil_of_le (by omega)]
    simp
  | succ d ih =>
    intro i k hd hi hk
    obtain ⟨k, rfl⟩ : ∃ m, k = m + 1 := ⟨k - 1, by omega⟩
    rw [fathomref0_Eq.l0, ints_length, ints_length]
    by_cases h : i < a.length
    · have e : wrap64 ((i : Int) + 1) = ((i + 1 : Nat) : Int) := by unfold wrap64; omega
      rw [if_pos (by omega), if_pos (by omega), if_pos (by omega), rd_ints a i h, rd_ints b i (by omega), e, ih (i + 1) k (by omega) (by omega) (by omega)]
      have ea : a.drop i = a[i] :: a.drop (i + 1) := List.drop_eq_getElem_cons h
      have eb : b.drop i = b[i]'(by omega) :: b.drop (i + 1) := List.drop_eq_getElem_cons (by omega)
      rw [ea, eb]
      by_cases hx : a[i] = b[i]'(by omega)
      · rw [if_pos (nat_eq.2 hx), hx]
        congr 1
        exact decide_eq_decide.2 ⟨fun h => by rw [h], fun h => (List.cons.inj h).2⟩
      · rw [if_neg (fun h => hx (nat_eq.1 h)), decide_eq_false (fun h => hx (List.cons.inj h).1)]
    · rw [if_neg (by omega), List.drop_eq_nil_of_le (by omega), List.drop_eq_nil_of_le (by omega)]
      simp
theorem eqB_f (a b : List UInt8) (hn : a.length < 4611686018427387904) : fathomref0_Eq.f (a.length + 1) (ints a) (ints b) = some (decide (a = b)) := by
  rw [fathomref0_Eq.f, ints_length, ints_length]
  by_cases h : a.length = b.length
  · rw [if_pos (by omega)]
    have := eqB_loop a b h hn a.length 0 (a.length + 1) (by omega) (by omega) (by omega)
    simpa using this
  · rw [if_neg (by omega), decide_eq_false (fun e => h (by rw [e]))]
set_option maxHeartbeats 1000000 in
theorem lessB_loop (a b : List UInt8) (hn : a.length < 4611686018427387904) : ∀ (d i k : Nat), a.length - i ≤ d → i ≤ a.length → i ≤ b.length → 2 * d + 2 ≤ k → fathomref0_Less.l0 k (ints a) (ints b) (i : Int) = some (decide (Lib.compareBytes (a.drop i) (b.drop i) < 0)) := by
  have e0 : ∀ (i k : Nat), i ≤ a.length → i ≤ b.length → ¬ (i < a.length ∧ i < b.length) → fathomref0_Less.l0 (k + 2) (ints a) (ints b) (i : Int) = some (decide (Lib.compareBytes (a.drop i) (b.drop i) < 0)) := by
    intro i k hi hj h
    rw [fathomref0_Less.l0, fathomref0_Less.j1, fathomref0_Less.j1, ints_length, ints_length]
    by_cases h1 : i < a.length
    · have h2 : i = b.length := by omega
      rw [if_pos (by omega), if_neg (by simp; omega), List.drop_eq_nil_of_le (show b.length ≤ i by omega), List.drop_eq_getElem_cons h1, decide_eq_false (by omega)]
      rfl
    · rw [if_neg (by omega), if_neg (by decide), List.drop_eq_nil_of_le (show a.length ≤ i by omega)]
      by_cases h2 : i < b.length
      · rw [List.drop_eq_getElem_cons h2, decide_eq_true (by omega)]
        rfl
      · rw [List.drop_eq_nil_of_le (show b.length ≤ i by omega), decide_eq_false (by omega)]
        rfl
  intro d
  induction d with
  | zero =>
    intro i k hd hi hj hk
    obtain ⟨k, rfl⟩ : ∃ m, k = m + 2 := ⟨k - 2, by omega⟩
    exact e0 i k hi hj (by omega)
  | succ d ih =>
    intro i k hd hi hj hk
    obtain ⟨k, rfl⟩ : ∃ m, k = m + 2 := ⟨k - 2, by omega⟩
    by_cases h : i < a.length ∧ i < b.length
    · obtain ⟨h1, h2⟩ := h
      have e : wrap64 ((i : Int) + 1) = ((i + 1 : Nat) : Int) := by unfold wrap64; omega
      rw [fathomref0_Less.l0, fathomref0_Less.j1, ints_length, ints_length, if_pos (by omega), if_pos (by simp; omega), if_pos (by omega), if_pos (by omega), if_pos (by omega), rd_ints a i h1, rd_ints b i h2, e, ih (i + 1) k (by omega) (by omega) (by omega) (by omega)]
      have ea : a.drop i = a[i] :: a.drop (i + 1) := List.drop_eq_getElem_cons h1
      have eb : b.drop i = b[i] :: b.drop (i + 1) := List.drop_eq_getElem_cons h2
      rw [ea, eb, cb_cons]
      by_cases hx : a[i] = b[i]
      · rw [if_pos (nat_eq.2 hx), hx, if_neg (UInt8.lt_irrefl _), if_neg (UInt8.lt_irrefl _)]
      · rw [if_neg (fun h => hx (nat_eq.1 h))]
        by_cases hl : a[i] < b[i]
        · have : (a[i].toNat : Int) < b[i].toNat := by have := UInt8.lt_iff_toNat_lt.1 hl; omega
          rw [if_pos hl, decide_eq_true this]
          rfl
        · have hg : b[i] < a[i] := by
            rcases UInt8.lt_or_lt_of_ne hx with h | h
            · exact absurd h hl
            · exact h
          have : ¬ (a[i].toNat : Int) < b[i].toNat := by have := UInt8.lt_iff_toNat_lt.1 hg; omega
          rw [if_neg hl, if_pos hg, decide_eq_false this]
          rfl
    · exact e0 i k hi hj h
theorem lessB_f (a b : List UInt8) (hn : a.length < 4611686018427387904) (k : Nat) (hk : 2 * a.length + 2 ≤ k) : fathomref0_Less.f k (ints a) (ints b) = some (decide (Lib.compareBytes a b < 0)) := by
  have := lessB_loop a b hn a.length 0 k (by omega) (by omega) (by omega) hk
  simpa [fathomref0_Less.f] using this
theorem signB_f (a b : List UInt8) (ha : a.length ≤ 100000) (hb : b.length ≤ 100000) : fathomlaw13_sign.f 200010 (ints a) (ints b) = some (Lib.compareBytes a b) := by
  rw [fathomlaw13_sign.f, lessB_f a b (by omega) _ (by omega)]
  simp only [Option.bind_some]
  have h1 := cb_vals a b
  have h2 := cb_neg a b
  by_cases h : Lib.compareBytes a b < 0
  · rw [decide_eq_true h, if_pos rfl]
    congr 1
    omega
  · rw [decide_eq_false h, if_neg (by decide), lessB_f b a (by omega) _ (by omega)]
    simp only [Option.bind_some]
    by_cases h3 : Lib.compareBytes b a < 0
    · rw [decide_eq_true h3, if_pos rfl]
      congr 1
      omega
    · rw [decide_eq_false h3, if_neg (by decide)]
      congr 1
      omega
theorem eqB_calls (p1 p2 : Option Addr) (c1 c2 : Nat) (a b : List UInt8) (w : World) (h1 : Sl w p1 a.length c1 a) (h2 : Sl w p2 b.length c2 b) (hn : a.length ≤ 100000) (hb : b.length ≤ 100000) :
    Calls Tryz.prog 43 #[.slice p1 a.length c1, .slice p2 b.length c2] w fun e w' => e = .returned (.bool (decide (a = b))) ∧ Below w.heap.size w w' := by
  have := fathomref0_Eq.calls (a.length + 1) p1 c1 (ints a) p2 c2 (ints b) _ w (by rw [ints_length]; exact h1.C (by omega)) (by rw [ints_length]; exact h1.cap) (by rw [ints_length]; exact h2.C (by omega)) (by rw [ints_length]; exact h2.cap) (eqB_f a b (by omega))
  rw [ints_length, ints_length] at this
  exact this.mono fun e w' h => ⟨h.1, below_drawn h.2⟩
theorem sign_calls (p1 p2 : Option Addr) (c1 c2 : Nat) (a b : List UInt8) (w : World) (h1 : Sl w p1 a.length c1 a) (h2 : Sl w p2 b.length c2 b) (ha : a.length ≤ 100000) (hb : b.length ≤ 100000) :
    Calls Tryz.prog 56 #[.slice p1 a.length c1, .slice p2 b.length c2] w fun e w' => e = .returned (.int .i64 (Lib.compareBytes a b)) ∧ Below w.heap.size w w' := by
  have := fathomlaw13_sign.calls 200010 p1 c1 (ints a) p2 c2 (ints b) _ w (by rw [ints_length]; exact h1.C (by omega)) (by rw [ints_length]; exact h1.cap) (by rw [ints_length]; exact h2.C (by omega)) (by rw [ints_length]; exact h2.cap) (signB_f a b ha hb)
  rw [ints_length, ints_length] at this
  exact this.mono fun e w' h => ⟨h.1, below_drawn h.2⟩
/-- A row of the call's own that holds bytes is a slice of those bytes. -/
theorem Sl.ofOwn {w : World} {base n : Nat} {v : Value} {bs : List UInt8} (h : w.ownsRow base 5 1 v n (nums .u8 (ints bs))) : ∃ p c, v = .slice p bs.length c ∧ Sl w p bs.length c bs := by
  obtain ⟨h1, h2⟩ := h
  have hn : bs.length = n := by simpa [nums, ints_length] using h1
  subst hn
  rcases h2 with ⟨rfl, h0⟩ | ⟨g, cap, cur, rfl, hb, hh, hnc, hcap, hsz, htk⟩
  · exact ⟨none, 0, by rw [h0], fun hp => by omega, rfl, by omega⟩
  · refine ⟨_, cap, rfl, fun hp => ⟨g, 0, rfl, fun i hi => ?_⟩, rfl, hnc⟩
    have e : w.cell? ⟨g, 0 + i, none⟩ = cur.toList[i]? := by simp [World.cell?, hh]
    rw [e, ← List.getElem?_take_of_lt (show i < bs.length * 1 by omega), htk]
    rw [nums, List.getElem?_map, List.getElem?_eq_getElem (by rw [ints_length]; exact hi), Option.map_some, List.getD_eq_getElem?_getD, List.getElem?_eq_getElem (by rw [ints_length]; exact hi)]
    rfl
theorem Sl.ofR {w : World} {base : Nat} {v : Value} {bs : List UInt8} (h : Kd.R (Kd.int .u8) 5 w base (fun _ => True) v (ints bs)) : ∃ p c, v = .slice p bs.length c ∧ Sl w p bs.length c bs := by
  obtain ⟨A, c, hv, hc, hC⟩ := Kd.R_reads h
  rw [ints_length] at hv hc hC
  exact ⟨A, c, hv, Sl.ofC hC hc⟩
theorem copyB_calls (p : Option Addr) (c : Nat) (a : List UInt8) (w : World) (h : Sl w p a.length c a) (hn : a.length ≤ 100000) :
    Calls Tryz.prog 50 #[.slice p a.length c] w fun e w' => ∃ p' c', e = .returned (.slice p' a.length c') ∧ Sl w' p' a.length c' a ∧ Below w.heap.size w w' := by
  have := fathomref0_Copy.calls p c (ints a) (ints a) w (by rw [ints_length]; exact h.C (by omega)) (by rw [ints_length]; exact h.cap) (by rw [fathomref0_Copy.f, if_pos (by rw [ints_length]; simp; omega), List.nil_append])
  rw [ints_length] at this
  refine this.mono ?_
  rintro e w' ⟨v, rfl, hR, hb⟩
  obtain ⟨p', c', rfl, hS⟩ := Sl.ofR hR
  exact ⟨p', c', rfl, hS, hb⟩
theorem begins_calls (A0 : Option Addr) (c0 : Nat) (l : List S130) (A1 : Option Addr) (c1 : Nat) (m : List S130) (w : World) (hr0 : Kd.C k130 w A0 l.length l) (hc0 : l.length ≤ c0) (hr1 : Kd.C k130 w A1 m.length m) (hc1 : m.length ≤ c1) (hl : l.length ≤ 100000) :
    Calls Tryz.prog 52 #[.slice A0 l.length c0, .slice A1 m.length c1] w fun e w' => e = .returned (.bool (decide (m.length < l.length) && eqLB (l.take m.length) m)) ∧ Below w.heap.size w w' := by
  have := fathomlaw13_begins.calls (m.length + 1) A0 c0 l A1 c1 m (decide (m.length < l.length) && eqLB (l.take m.length) m) w hr0 hc0 hr1 hc1 (by
    rw [fathomlaw13_begins.f]
    by_cases h : m.length < l.length
    · have e : (l.take m.length).length = m.length := by rw [List.length_take]; omega
      have h1 := eq_f (l.take m.length) m (by omega)
      rw [e] at h1
      rw [if_pos (by omega), if_pos (by omega), if_pos (by omega), Int.toNat_natCast, h1]
      simp [h]
    · rw [if_neg (by omega), decide_eq_false h]
      rfl)
  exact this.mono fun e w' h => ⟨h.1, below_drawn h.2⟩
end
section
open Go.RowKit Go.Proofs.YtkanfffbdegfoaaGreatDoorW.PrintWords Go.Proofs.YtkanfffbdegfoaaGreatDoorW.PrintLast Go.Proofs.YtkanfffbdegfoaaGreatDoorW.PrintMore

/-! ### what right gives -/
theorem few_any (l : List S130) (k : Nat) (hk : 122 ≤ k) : fathomlaw13_few.f k l = some (fewL l) := by
  rw [fathomlaw13_few.f]
  have := few_loop l 60 0 [] k (by omega) (Nat.le_refl _) (by omega) (by omega)
  rw [show ((0 : Nat) : Int) = 0 from rfl] at this
  rw [this]
  simp [fewL]
theorem num_f (e : Int) : fathomlaw13_num.f e = some e := rfl
theorem set_fit_f (l : List S130) : label_Set.f (fewL l) = some (setL (fewL l)) := by
  rw [label_Set.f, if_pos (by have := fewL_len l; omega)]
/-- A row of sets. -/
def SetsOk (r : List (List S130)) : Prop := r.length ≤ 30 ∧ ∀ x ∈ r, isSetL x = true
set_option maxHeartbeats 2000000 in
theorem right_loop (L : List (List S130)) (d : Nat) : ∀ (i : Nat) (acc : List (List S130)) (k : Nat), 30 - i ≤ d → acc.length ≤ i → i ≤ 30 → (∀ x ∈ acc, isSetL x = true) → 2 * d + 130 ≤ k → ∃ r, fathomlaw13_right.l0 k L acc (i : Int) = some r ∧ SetsOk r := by
  have e0 : ∀ (i : Nat) (acc : List (List S130)) (k : Nat), acc.length ≤ i → i ≤ 30 → (∀ x ∈ acc, isSetL x = true) → (i < L.length → i = 30) → ∃ r, fathomlaw13_right.l0 (k + 2) L acc (i : Int) = some r ∧ SetsOk r := by
    intro i acc k ha hi hac h
    rw [fathomlaw13_right.l0, fathomlaw13_right.j1, fathomlaw13_right.j1]
    by_cases h1 : i < L.length
    · rw [if_pos (by omega), if_neg (by have := h h1; simp; omega)]
      exact ⟨_, rfl, by omega, hac⟩
    · rw [if_neg (by omega), if_neg (by decide)]
      exact ⟨_, rfl, by omega, hac⟩
  induction d with
  | zero =>
    intro i acc k hd ha hi hac hk
    obtain ⟨k, rfl⟩ : ∃ m, k = m + 2 := ⟨k - 2, by omega⟩
    exact e0 i acc k ha hi hac (fun _ => by omega)
  | succ d ih =>
    intro i acc k hd ha hi hac hk
    obtain ⟨k, rfl⟩ : ∃ m, k = m + 2 := ⟨k - 2, by omega⟩
    by_cases h12 : i < L.length ∧ i < 30
    · obtain ⟨h1, h2⟩ := h12
      rw [fathomlaw13_right.l0, if_pos (by omega), fathomlaw13_right.j1]
      rw [if_pos (by simp; omega), if_pos (by omega), if_pos (by omega), few_any _ k (by omega)]
      simp only [Option.bind_some]
      rw [set_fit_f]
      simp only [Option.bind_some, num_f]
      have e : wrap64 ((i : Int) + 1) = ((i + 1 : Nat) : Int) := by unfold wrap64; omega
      rw [e]
      by_cases h3 : (setL (fewL (rd_L2 L (i : Int)))).2 = 0
      · rw [if_pos h3, if_pos (by omega)]
        refine ih (i + 1) _ k (by omega) (by simp; omega) (by omega) ?_ (by omega)
        intro x hx
        rcases List.mem_append.1 hx with hx | hx
        · exact hac x hx
        · rw [List.mem_singleton.1 hx]
          exact isSet_set h3
      · rw [if_neg h3]
        exact ih (i + 1) _ k (by omega) (by omega) (by omega) hac (by omega)
    · exact e0 i acc k ha hi hac (fun h => by omega)
theorem right_f (L : List (List S130)) : ∃ r, fathomlaw13_right.f 200 L = some r ∧ SetsOk r :=
  right_loop L 30 0 [] 200 (by omega) (Nat.le_refl _) (by omega) (fun x hx => by cases hx) (by omega)
theorem eqLB_comm (l m : List S130) : eqLB l m = eqLB m l := by
  cases h : eqLB m l
  · cases h2 : eqLB l m
    · rfl
    · rw [(eqLB_iff l m).1 h2, eqLB_self] at h
      cases h
  · rw [(eqLB_iff m l).1 h, eqLB_self]
/-- What is asked of the calls on one set. -/
structure OneIn (w : World) (A : Option Addr) (c : Nat) (l : List S130) : Prop where
  row : Kd.C k130 w A l.length l
  cap : l.length ≤ c
theorem OneIn.below {w w' : World} {A : Option Addr} {c : Nat} {l : List S130} (h : OneIn w A c l) (hb : Below w.heap.size w w') : OneIn w' A c l := ⟨Kd.C_below h.row hb, h.cap⟩
theorem set_one {A : Option Addr} {c : Nat} {l : List S130} (hs : isSetL l = true) (w : World) (h : OneIn w A c l) :
    Calls Tryz.prog 51 #[.slice A l.length c] w fun e w' => ∃ A' c', e = .returned (.tuple #[.slice A' l.length c', .int .i64 0]) ∧ OneIn w' A' c' l ∧ Below w.heap.size w w' := by
  have := set_calls A c l w h.row h.cap (by have := set_16 hs; omega)
  rw [set_of_set hs (List.Perm.refl l)] at this
  refine this.mono ?_
  rintro e w' ⟨v, rfl, hR, hb⟩
  obtain ⟨A', c', rfl⟩ := Kd.R_slice hR
  exact ⟨A', c', rfl, ⟨(Kd.R_reads' hR).2.2, (Kd.R_reads' hR).2.1⟩, hb⟩
theorem text_one {A : Option Addr} {c : Nat} {l : List S130} (hs : isSetL l = true) (w : World) (h : OneIn w A c l) (hE : WE w) :
    Calls Tryz.prog 21 #[.slice A l.length c] w fun e w' => e = .returned (.tuple #[.string (textL l).1, .int .i64 0]) ∧ Below w.heap.size w w' := by
  have := text_calls A c l w h.row (by have := set_16 hs; omega) hE.tabs
  rw [text_set hs] at this
  exact this
theorem key_one {A : Option Addr} {c : Nat} {l : List S130} (hs : isSetL l = true) (w : World) (h : OneIn w A c l) (hE : WE w) :
    Calls Tryz.prog 41 #[.slice A l.length c] w fun e w' => ∃ p' c', e = .returned (.tuple #[.slice p' (keyB l).length c', .int .i64 0]) ∧ Sl w' p' (keyB l).length c' (keyB l) ∧ Below w.heap.size w w' := by
  have := key_calls A c l w h.row (by have := set_16 hs; omega) hE.max
  rw [set_key hs] at this
  refine this.mono ?_
  rintro e w' ⟨v, rfl, hR, hb⟩
  obtain ⟨p', c', rfl, hS⟩ := Sl.ofOwn hR
  exact ⟨p', c', rfl, hS, hb⟩
theorem parse_one {l : List S130} (hs : isSetL l = true) (w : World) :
    Calls Tryz.prog 15 #[.string (textL l).1] w fun e w' => ∃ A' c', e = .returned (.tuple #[.slice A' l.length c', .agg #[.int .i64 0, .int .i64 0]]) ∧ OneIn w' A' c' l ∧ Below w.heap.size w w' := by
  have := parse_calls (textL l).1 w (by have := text_size hs; omega)
  rw [parse_text hs] at this
  refine this.mono ?_
  rintro e w' ⟨v, rfl, hR, hb⟩
  obtain ⟨A', c', rfl⟩ := Kd.R_slice hR
  exact ⟨A', c', rfl, ⟨(Kd.R_reads' hR).2.2, (Kd.R_reads' hR).2.1⟩, hb⟩
theorem ofKey_one {p : Option Addr} {c : Nat} {l : List S130} (hs : isSetL l = true) (w : World) (h : Sl w p (keyB l).length c (keyB l)) (hE : WE w) :
    Calls Tryz.prog 46 #[.slice p (keyB l).length c] w fun e w' => ∃ A' c', e = .returned (.tuple #[.slice A' l.length c', .int .i64 0]) ∧ OneIn w' A' c' l ∧ Below w.heap.size w w' := by
  have := ofKey_calls p c (keyB l) w h (by have := key_size hs; omega) hE.max
  rw [ofKey_key hs] at this
  refine this.mono ?_
  rintro e w' ⟨v, rfl, hR, hb⟩
  obtain ⟨A', c', rfl⟩ := Kd.R_slice hR
  exact ⟨A', c', rfl, ⟨(Kd.R_reads' hR).2.2, (Kd.R_reads' hR).2.1⟩, hb⟩
theorem eq_one {A B : Option Addr} {c d : Nat} {l m : List S130} (hs : isSetL l = true) (w : World) (h : OneIn w A c l) (h2 : OneIn w B d m) :
    Calls Tryz.prog 17 #[.slice A l.length c, .slice B m.length d] w fun e w' => e = .returned (.bool (eqLB l m)) ∧ Below w.heap.size w w' :=
  eqLabels_calls A c l B d m w h.row h.cap h2.row h2.cap (by have := set_16 hs; omega)
theorem equal_one {A B : Option Addr} {c d : Nat} {l m : List S130} (hs : isSetL l = true) (w : World) (h : OneIn w A c l) (h2 : OneIn w B d m) :
    Calls Tryz.prog 54 #[.slice A l.length c, .slice B m.length d] w fun e w' => e = .returned (.bool (eqLB l m)) ∧ Below w.heap.size w w' :=
  equal_calls A c l B d m w h.row h.cap h2.row h2.cap (by have := set_16 hs; omega)
theorem compare_one {A B : Option Addr} {c d : Nat} {l m : List S130} (hs : isSetL l = true) (hm : isSetL m = true) (w : World) (h : OneIn w A c l) (h2 : OneIn w B d m) :
    Calls Tryz.prog 55 #[.slice A l.length c, .slice B m.length d] w fun e w' => e = .returned (.int .i64 (cmpL l m)) ∧ Below w.heap.size w w' :=
  compare_calls A c l B d m w h.row h2.row (by have := set_16 hs; omega) (by have := set_16 hm; omega)
theorem keq_one {p q : Option Addr} {c d : Nat} {l m : List S130} (hs : isSetL l = true) (hm : isSetL m = true) (w : World) (h : Sl w p (keyB l).length c (keyB l)) (h2 : Sl w q (keyB m).length d (keyB m)) :
    Calls Tryz.prog 43 #[.slice p (keyB l).length c, .slice q (keyB m).length d] w fun e w' => e = .returned (.bool (eqLB m l)) ∧ Below w.heap.size w w' := by
  have := eqB_calls p q c d (keyB l) (keyB m) w h h2 (by have := key_size hs; omega) (by have := key_size hm; omega)
  have e : decide (keyB l = keyB m) = eqLB m l := by
    rw [eqLB_comm]
    cases he : eqLB l m
    · exact decide_eq_false (fun h => by rw [(eqLB_iff l m).2 ((key_same hs hm).1 h)] at he; cases he)
    · exact decide_eq_true ((key_same hs hm).2 ((eqLB_iff l m).1 he))
  rw [e] at this
  exact this
theorem sign_one {p q : Option Addr} {c d : Nat} {l m : List S130} (hs : isSetL l = true) (hm : isSetL m = true) (w : World) (h : Sl w p (keyB l).length c (keyB l)) (h2 : Sl w q (keyB m).length d (keyB m)) :
    Calls Tryz.prog 56 #[.slice p (keyB l).length c, .slice q (keyB m).length d] w fun e w' => e = .returned (.int .i64 (cmpL l m)) ∧ Below w.heap.size w w' := by
  have := sign_calls p q c d (keyB l) (keyB m) w h h2 (by have := key_size hs; omega) (by have := key_size hm; omega)
  rw [← key_order hs hm] at this
  exact this

theorem eq_same {A B : Option Addr} {c d : Nat} {l : List S130} (hs : isSetL l = true) (w : World) (h : OneIn w A c l) (h2 : OneIn w B d l) :
    Calls Tryz.prog 17 #[.slice A l.length c, .slice B l.length d] w fun e w' => e = .returned (.bool true) ∧ Below w.heap.size w w' := by
  have := eq_one hs w h h2
  rw [eqLB_self] at this
  exact this
set_option maxHeartbeats 20000000 in
set_option maxRecDepth 100000 in
theorem labelOneForm_walk (A : Option Addr) (c : Nat) (l0 : List (List S130)) (A' : Option Addr) (n' c' : Nat) (w : World) (hC : Kd.C (Kd.slice 130 k130) w A l0.length l0) (hlc : l0.length ≤ c) (hE : WE w) :
    Calls Tryz.prog 8 #[.agg #[.slice A l0.length c, .slice A' n' c']] w fun e w' => e = .returned (.bool true) ∧ Below w.heap.size w w' := by
  have hx0 := heap_alloc_new w (.cells #[.slice A l0.length c, .slice A' n' c'] 74)
  have hb0 := (Below.refl w.heap.size w).alloc (Nat.le_refl _) (.cells #[.slice A l0.length c, .slice A' n' c'] 74)
  obtain ⟨R, hRf, hR30, hRs⟩ := right_f l0
  have RR := Lib.hid (fathomlaw13_right.calls 200 A c l0 R (w.alloc (.cells #[.slice A l0.length c, .slice A' n' c'] 74)) (Kd.C_below hC hb0) hlc hRf)
  have HB0 := Lib.hid hb0
  have HE := Lib.hid hE
  have HRS := Lib.hid hRs
  have hc00 := cell_at hx0 0
  clear hx0 hb0 hRf hC hE hRs
  go_enter Tryz.func8, Tryz.ntmps8
  go_wp2_with fail
  refine RR.out.mono ?_
  clear RR hc00
  rintro e w1 ⟨v1, rfl, hS1, hb1⟩
  have hN := Kd.S_N hS1
  obtain ⟨A1, c1, rfl⟩ := Kd.S_slice hS1
  have HB1 := Lib.hid (HB0.out.trans (hb1.mono HB0.out.size))
  have HCR := Lib.hid (Kd.N_reads' hN).2.2
  clear HB0 hb1 hS1 hN
  go_wp2_with fail
  have hs1 := HB1.out.size
  go_loopw [4] (fun v wr => ∃ i : Nat, v = .int .i64 i ∧ i ≤ R.length ∧ Below w1.heap.size w1 wr) (fun v _ => R.length - (intOf v).toNat)
  case atStart => exact ⟨0, rfl, by omega, Below.refl _ _⟩
  case round =>
    obtain ⟨i, rfl, hi, hbr⟩ := hrel
    by_cases hlt : i < R.length
    · obtain ⟨ad, A5, c5, eA, hy, hl5, hC5⟩ := at_L2 HCR.out (i : Int) (by omega) (by omega)
      subst eA
      have hset : isSetL (rd_L2 R (i : Int)) = true := by
        have e : rd_L2 R (i : Int) = R[i] := by simp [rd_L2, List.getD_eq_getElem?_getD, List.getElem?_eq_getElem hlt]
        rw [e]
        exact HRS.out _ (List.getElem_mem hlt)
      rw [Int.toNat_natCast] at hy
      generalize rd_L2 R (i : Int) = l at *
      have HY := Lib.hid hy
      have HO := Lib.hid (show OneIn w1 A5 c5 l from ⟨hC5, hl5⟩)
      have HSet := Lib.hid hset
      have hcr := pw_cell_below hbr hy
      clear hC5 hset
      have C1 := Lib.hid (set_one HSet.out wr (HO.out.below hbr))
      go_wp2_with fail
      refine C1.out.mono ?_
      clear C1 hcr
      rintro e w2 ⟨Ag, cg, rfl, hG, hb2⟩
      have hbr2 := hbr.trans (hb2.mono hbr.size)
      have HG := Lib.hid hG
      have hcr := pw_cell_below hbr2 hy
      clear hb2 hbr hG
      have C2 := Lib.hid (text_one HSet.out w2 (HO.out.below hbr2) (HE.out.below (HB1.out.trans (hbr2.mono hs1))))
      go_wp2_with fail
      refine C2.out.mono ?_
      clear C2 hcr
      rintro e w3 ⟨rfl, hb3⟩
      have hbr3 := hbr2.trans (hb3.mono hbr2.size)
      have HG3 := Lib.hid (HG.out.below hb3)
      have hcr := pw_cell_below hbr3 hy
      clear hb3 hbr2 HG
      have C3 := Lib.hid (key_one HSet.out w3 (HO.out.below hbr3) (HE.out.below (HB1.out.trans (hbr3.mono hs1))))
      go_wp2_with fail
      refine C3.out.mono ?_
      clear C3 hcr
      rintro e w4 ⟨pk, ck, rfl, hK4, hb4⟩
      have hbr4 := hbr3.trans (hb4.mono hbr3.size)
      have HG4 := Lib.hid (HG3.out.below hb4)
      have HK4 := Lib.hid hK4
      clear hb4 hbr3 HG3 hK4
      have C4 := Lib.hid (parse_one HSet.out w4)
      go_wp2_with fail
      refine C4.out.mono ?_
      clear C4
      rintro e w5 ⟨Ap, cp, rfl, hP5, hb5⟩
      have hbr5 := hbr4.trans (hb5.mono hbr4.size)
      have HG5 := Lib.hid (HG4.out.below hb5)
      have HK5 := Lib.hid (HK4.out.below hb5)
      have HP5 := Lib.hid hP5
      clear hb5 hbr4 HG4 HK4 hP5
      go_wp2_with fail
      have hx6 := heap_alloc_new w5 (.cells #[.int .i64 0, .int .i64 0] 61)
      have hb6 := (Below.refl w5.heap.size w5).alloc (Nat.le_refl _) (.cells #[.int .i64 0, .int .i64 0] 61)
      have hbr6 := hbr5.trans (hb6.mono hbr5.size)
      have C5 := ofKey_one HSet.out (w5.alloc (.cells #[.int .i64 0, .int .i64 0] 61)) (HK5.out.below hb6) (HE.out.below (HB1.out.trans (hbr6.mono hs1)))
      refine C5.mono ?_
      clear C5
      rintro e w6 ⟨Ao, co, rfl, hO6, hb7⟩
      have hX6 := (hb7.block _ (Array.getElem?_eq_some_iff.1 hx6).1).trans hx6
      have hb57 := hb6.trans (hb7.mono hb6.size)
      have hbr7 := hbr5.trans (hb57.mono hbr5.size)
      have HG6 := Lib.hid (HG5.out.below hb57)
      have HK6 := Lib.hid (HK5.out.below hb57)
      have HP6 := Lib.hid (HP5.out.below hb57)
      have HO6 := Lib.hid hO6
      have hcr := pw_cell_below hbr7 hy
      clear hb6 hb7 hb57 hbr5 hbr6 hx6 HG5 HK5 HP5 hO6
      generalize w5.heap.size = g5 at *
      have hc60 := cell_at hX6 0
      have hc61 := cell_at hX6 1
      go_wp2_with (first | (go_at_call 14; (with_reducible refine (num_calls _ _).mono ?_); rintro en wx ⟨rfl, hwx⟩; subst wx))
      refine (eq_same HSet.out w6 HG6.out (HO.out.below hbr7)).mono ?_
      rintro e w7 ⟨rfl, hb7⟩
      have hbr8 := hbr7.trans (hb7.mono hbr7.size)
      have HK7 := Lib.hid (HK6.out.below hb7)
      have HP7 := Lib.hid (HP6.out.below hb7)
      have HO7 := Lib.hid (HO6.out.below hb7)
      clear hcr hc60 hc61 hX6 hb7 hbr7 HG6 HK6 HP6 HO6
      have hcr := pw_cell_below hbr8 hy
      go_wp2_with fail
      refine (eq_same HSet.out w7 HP7.out (HO.out.below hbr8)).mono ?_
      rintro e w8 ⟨rfl, hb8⟩
      have hbr9 := hbr8.trans (hb8.mono hbr8.size)
      have HK8 := Lib.hid (HK7.out.below hb8)
      have HO8 := Lib.hid (HO7.out.below hb8)
      clear hcr hb8 hbr8 HK7 HP7 HO7
      have hcr := pw_cell_below hbr9 hy
      go_wp2_with fail
      refine (eq_same HSet.out w8 HO8.out (HO.out.below hbr9)).mono ?_
      rintro e w9 ⟨rfl, hb9⟩
      have hbr10 := hbr9.trans (hb9.mono hbr9.size)
      have HK9 := Lib.hid (HK8.out.below hb9)
      clear hcr hb9 hbr9 HK8 HO8
      have HBR := Lib.hid hbr10
      have hs9 := hbr10.size
      go_wp2_with fail
      go_loopw [15] (fun v wi => ∃ n : Nat, v = .int .i64 n ∧ n ≤ i ∧ Below w9.heap.size w9 wi) (fun v _ => i - (intOf v).toNat)
      case atStart => exact ⟨0, rfl, by omega, Below.refl _ _⟩
      case round =>
        clear hbr10
        obtain ⟨n, rfl, hn, hbi⟩ := hrel
        by_cases hltn : n < i
        · obtain ⟨ad2, A6, c6, eA, hyn, hl6, hC6⟩ := at_L2 HCR.out (n : Int) (by omega) (by omega)
          cases eA
          have hsetm : isSetL (rd_L2 R (n : Int)) = true := by
            have e : rd_L2 R (n : Int) = R[n] := by simp [rd_L2, List.getD_eq_getElem?_getD, List.getElem?_eq_getElem (show n < R.length by omega)]
            rw [e]
            exact HRS.out _ (List.getElem_mem (by omega))
          rw [Int.toNat_natCast] at hyn
          generalize rd_L2 R (n : Int) = m at *
          have HYN := Lib.hid hyn
          have HOM := Lib.hid (show OneIn w1 A6 c6 m from ⟨hC6, hl6⟩)
          have HSetM := Lib.hid hsetm
          have hb1i := HBR.out.trans (hbi.mono hs9)
          have hcr := pw_cell_below hb1i hyn
          clear hC6 hsetm
          have C1 := Lib.hid (text_one HSetM.out wr (HOM.out.below hb1i) (HE.out.below (HB1.out.trans (hb1i.mono hs1))))
          go_wp2_with fail
          refine C1.out.mono ?_
          clear C1 hcr
          rintro e wa ⟨rfl, hba⟩
          have hbia := hbi.trans (hba.mono hbi.size)
          have hb1a := HBR.out.trans (hbia.mono hs9)
          have hcr := pw_cell_below hb1a hyn
          clear hba hb1i hbi
          have C2 := Lib.hid (key_one HSetM.out wa (HOM.out.below hb1a) (HE.out.below (HB1.out.trans (hb1a.mono hs1))))
          go_wp2_with fail
          refine C2.out.mono ?_
          clear C2 hcr
          rintro e wb ⟨pq, cq, rfl, hQ, hbb⟩
          have hbib := hbia.trans (hbb.mono hbia.size)
          have hb1b := HBR.out.trans (hbib.mono hs9)
          have HQ := Lib.hid hQ
          have HKB := Lib.hid (HK9.out.below hbib)
          have HOL := Lib.hid (HO.out.below hb1b)
          have HOMB := Lib.hid (HOM.out.below hb1b)
          have hyi2 := pw_cell_below hb1b hy
          have hyn2 := pw_cell_below hb1b hyn
          clear hbb hbia hb1a hQ
          have HBIB := Lib.hid hbib
          have TS := Lib.hid (text_same HSet.out HSetM.out)
          have TS2 := Lib.hid (eqLB_comm l m)
          go_upto_region 17 with (fail)
          have y0 := fun (p : BelowAt wb.heap.size wb) => pw_cell_below p.h hyi2
          have y1 := fun (p : BelowAt wb.heap.size wb) => pw_cell_below p.h hyn2
          have LEQ := Lib.hid (fun (p : BelowAt wb.heap.size wb) => eq_one HSetM.out p.u (HOMB.out.below p.h) (HOL.out.below p.h))
          refine wp_region_quiet_below wb.heap.size wb (by kernel_rfl) (by kernel_rfl) (Below.refl _ _) ?_
          repeat go_big_quiet_step (first | (go_at_call 17; with_reducible exact calls_below_of (Nat.le_refl _) (LEQ.out _)))
          refine wpQuiet_nil ?_
          rintro wc ⟨⟨wc', hbc⟩, hw⟩
          replace hw : wc = wc' := hw
          subst hw
          have hyi3 := pw_cell_below hbc hyi2
          have hyn3 := pw_cell_below hbc hyn2
          have HK3 := Lib.hid (HKB.out.below hbc)
          have HQ3 := Lib.hid (HQ.out.below hbc)
          have HL3 := Lib.hid (HOL.out.below hbc)
          have HM3 := Lib.hid (HOMB.out.below hbc)
          have HBIC := Lib.hid (HBIB.out.trans (hbc.mono HBIB.out.size))
          have LE := fun (p : BelowAt wc.heap.size wc) => equal_one HSetM.out p.u (HM3.out.below p.h) (HL3.out.below p.h)
          have LK := fun (p : BelowAt wc.heap.size wc) => keq_one HSet.out HSetM.out p.u (HK3.out.below p.h) (HQ3.out.below p.h)
          have LC1 := fun (p : BelowAt wc.heap.size wc) => compare_one HSet.out HSetM.out p.u (HL3.out.below p.h) (HM3.out.below p.h)
          have LS1 := fun (p : BelowAt wc.heap.size wc) => sign_one HSet.out HSetM.out p.u (HK3.out.below p.h) (HQ3.out.below p.h)
          have LC2 := fun (p : BelowAt wc.heap.size wc) => compare_one HSetM.out HSet.out p.u (HM3.out.below p.h) (HL3.out.below p.h)
          have LS2 := fun (p : BelowAt wc.heap.size wc) => sign_one HSetM.out HSet.out p.u (HQ3.out.below p.h) (HK3.out.below p.h)
          have ts := TS.out
          rw [TS2.out] at ts
          generalize eqLB m l = b at *
          generalize cmpL l m = x1 at *
          generalize cmpL m l = x2 at *
          clear y0 y1 LEQ hyi2 hyn2 hbc TS TS2 HOL HOMB HKB HQ HBIB hbib hb1b
          go_upto_region 18 with (fail)
          have y0 := fun (p : BelowAt wc.heap.size wc) => pw_cell_below p.h hyi3
          have y1 := fun (p : BelowAt wc.heap.size wc) => pw_cell_below p.h hyn3
          clear hyi3 hyn3
          have LC1 := Lib.hid LC1
          have LS1 := Lib.hid LS1
          have LC2 := Lib.hid LC2
          have LS2 := Lib.hid LS2
          cases b
          all_goals
            have LE := Lib.hid LE
            have LK := Lib.hid LK
            refine wp_region_quiet_below wc.heap.size wc (by kernel_rfl) (by kernel_rfl) (Below.refl _ _) ?_
            repeat go_big_quiet_step (first | (go_at_call 54; with_reducible exact calls_below_of (Nat.le_refl _) (LE.out _)) | (go_at_call 43; with_reducible exact calls_below_of (Nat.le_refl _) (LK.out _)) | (go_at_call 55; with_reducible exact calls_below_of (Nat.le_refl _) (LC1.out _)) | (go_at_call 55; with_reducible exact calls_below_of (Nat.le_refl _) (LC2.out _)) | (go_at_call 56; with_reducible exact calls_below_of (Nat.le_refl _) (LS1.out _)) | (go_at_call 56; with_reducible exact calls_below_of (Nat.le_refl _) (LS2.out _)))
            refine wpQuiet_nil ?_
            rintro _ ⟨⟨wd, hbd⟩, rfl⟩
            clear y0 y1
            go_wp2_with fail
            go_roundw
            case rel => exact ⟨n + 1, by go_num, by omega, HBIC.out.trans (hbd.mono HBIC.out.size)⟩
            case measure => simp [intOf]; omega
        · go_wp2_with fail
          go_roundw
          case rel => exact ⟨i + 1, by go_num, by omega, HBR.out.trans (hbi.mono hs9)⟩
          case measure => simp [intOf]; omega
    · have W0 := Lib.hid (works_calls wr (HE.out.below (HB1.out.trans (hbr.mono hs1))))
      go_wp2_with fail
      refine W0.out.mono ?_
      rintro en wd ⟨rfl, hbd⟩
      go_wp2_with fail
      go_ret
      have hb := HB1.out.trans (hbr.mono hs1)
      exact ⟨rfl, hb.trans (hbd.mono hb.size)⟩
end
section
open Go.RowKit Go.Proofs.YtkanfffbdegfoaaGreatDoorW.PrintWords Go.Proofs.YtkanfffbdegfoaaGreatDoorW.PrintLast Go.Proofs.YtkanfffbdegfoaaGreatDoorW.PrintMore

/-- A byte. -/
def kB : Kd UInt8 := Kd.iso (Kd.int .u8) fun b => (b.toNat : Int)
theorem C_of_kB {w : World} {A : Option Addr} {n : Nat} {bs : List UInt8} (h : Kd.C kB w A n bs) : Kd.C (Kd.int .u8) w A n (ints bs) := by
  obtain ⟨h1, h2, h3⟩ := h
  refine ⟨by rw [ints_length]; exact h1, h2, fun hn => ?_⟩
  obtain ⟨ad, e, hc⟩ := h3 hn
  refine ⟨ad, e, fun j p hj => ?_⟩
  rw [ints, List.getElem?_map] at hj
  obtain ⟨b, hb, rfl⟩ := Option.map_eq_some_iff.1 hj
  exact hc j b hb
theorem at_B {w : World} {A : Option Addr} {n : Nat} {xs : List (List UInt8)} (h : Kd.C (Kd.slice 5 kB) w A n xs) (i : Nat) (hi : i < xs.length) : ∃ ad A0 c0, A = some ad ∧ w.cell? (ad.add i) = some (.slice A0 xs[i].length c0) ∧ Sl w A0 xs[i].length c0 xs[i] := by
  have hn : xs.length = n := h.1
  obtain ⟨ad, c, e, _, hK, hc0⟩ := Kd.C_get h ([] : List UInt8) (i : Int) (by omega) (by omega)
  have hx : xs.getD (i : Int).toNat [] = xs[i] := by simp [List.getD_eq_getElem?_getD, List.getElem?_eq_getElem hi]
  rw [hx] at hK
  have hc : ∀ j u, c[j]? = some u → w.cell? (ad.add ((i : Int).toNat * 1 + j)) = some u := hc0
  obtain ⟨A0, c0, rfl, l0, g0⟩ := hK
  exact ⟨ad, A0, c0, e, by have hq := hc 0 _ rfl; rwa [Nat.mul_one, Nat.add_zero, Int.toNat_natCast] at hq, Sl.ofC (C_of_kB g0) l0⟩
theorem cut93 (A : Option Addr) (n c j : Nat) (hj : j ≤ n) (hc : n ≤ c) : ∀ W, (Instr.slice 93 (.slice A n c) none (some (.int .i64 (j : Int))) (some (.int .i64 (j : Int)))).run Tryz.prog W = .ok (.slice A j j) W := by
  obtain ⟨i, hi, _⟩ := Option.map_eq_some_iff.1 info5
  intro W
  have ht : Tryz.prog.underlying 93 = some (.slice 5) := Tryz.underlying93
  have hel : Tryz.prog.elem 93 = 5 := by simp [Program.elem, ht]
  have hu : Tryz.prog.underlying 93 = some (.slice (Tryz.prog.elem 93)) := by rw [hel]; exact ht
  have ha : (A.map fun x => x.add 0) = A := by cases A <;> simp [Addr.add]
  rw [run_slice_hm W 93 A n c hu .i64 .i64 (j : Int) (j : Int) (by omega) (by omega) (by omega), hel]
  simp [sizeOf, typeInfo, hi, sliced, Result.andThen, ha]
theorem cut93' (A : Option Addr) (n c : Nat) (hj : 3000 ≤ n) (hc : n ≤ c) : ∀ W, (Instr.slice 93 (.slice A n c) none (some (.int .i64 3000)) none).run Tryz.prog W = .ok (.slice A 3000 c) W := by
  obtain ⟨i, hi, _⟩ := Option.map_eq_some_iff.1 info5
  intro W
  have := cut_to 93 5 .i64 Tryz.underlying93 hi A n c 3000 (by omega) (by omega) hc W
  simpa using this
theorem begins_one {A B : Option Addr} {c d : Nat} {l m : List S130} {n : Nat} (hs : isSetL l = true) (hm : isSetL m = true) (hn : n < (keyB l).length) (hk : keyB m = (keyB l).take n) (w : World) (h : OneIn w A c l) (h2 : OneIn w B d m) :
    Calls Tryz.prog 52 #[.slice A l.length c, .slice B m.length d] w fun e w' => e = .returned (.bool true) ∧ Below w.heap.size w w' := by
  have := begins_calls A c l B d m w h.row h.cap h2.row h2.cap (by have := set_16 hs; omega)
  obtain ⟨h3, h4⟩ := key_begins hs hm hn hk
  rw [h4, eqLB_self, decide_eq_true h3] at this
  exact this

set_option maxHeartbeats 20000000 in
set_option maxRecDepth 100000 in
theorem labelKeyed_walk (A0 : Option Addr) (n0 c0 : Nat) (A1 : Option Addr) (n1 c1 : Nat) (A : Option Addr) (c : Nat) (Bs : List (List UInt8)) (w : World) (hB : Kd.C (Kd.slice 5 kB) w A Bs.length Bs) (hE : WE w) :
    Calls Tryz.prog 7 #[.agg #[.slice A0 n0 c0, .slice A1 n1 c1, .slice A Bs.length c]] w fun e w' => e = .returned (.bool true) ∧ Below w.heap.size w w' := by
  have hx0 := heap_alloc_new w (.cells #[.slice A0 n0 c0, .slice A1 n1 c1, .slice A Bs.length c] 26)
  have hb0 := (Below.refl w.heap.size w).alloc (Nat.le_refl _) (.cells #[.slice A0 n0 c0, .slice A1 n1 c1, .slice A Bs.length c] 26)
  have HX0 := Lib.hid hx0
  have HB := Lib.hid (Kd.C_below hB hb0)
  have HE := Lib.hid (hE.below hb0)
  have HB0 := Lib.hid hb0
  clear hx0 hb0 hB hE
  go_enter Tryz.func7, Tryz.ntmps7
  go_wp2_with fail
  generalize w.alloc (.cells #[.slice A0 n0 c0, .slice A1 n1 c1, .slice A Bs.length c] 26) = v0 at *
  have hs0 := HB0.out.size
  have hl0 := (Array.getElem?_eq_some_iff.1 HX0.out).1
  go_loopw [3] (fun v wr => ∃ i : Nat, v = .int .i64 i ∧ i ≤ 60 ∧ Below v0.heap.size v0 wr) (fun v _ => 60 - (intOf v).toNat)
  case atStart => exact ⟨0, rfl, by omega, Below.refl _ _⟩
  case round =>
    obtain ⟨i, rfl, hi, hbr⟩ := hrel
    have hXr := (hbr.block _ hl0).trans HX0.out
    have hc2 := cell_at hXr 2
    by_cases hlt : i < Bs.length ∧ i < 60
    · obtain ⟨hlt, hlt2⟩ := hlt
      obtain ⟨ad, Ak, ck, eA, hy, hSk⟩ := at_B HB.out i hlt
      subst eA
      have hyr := pw_cell_below hbr hy
      have hyr' := hyr
      generalize Bs[i] = bs at *
      go_upto_if 32 with (fail)
      have hkl : (bs.take 3000).length ≤ 3000 := by rw [List.length_take]; omega
      have hks : (bs.take 3000).length = if 3000 < bs.length then 3000 else bs.length := by rw [List.length_take]; split <;> omega
      have HS := Lib.hid (show Sl v0 Ak (bs.take 3000).length ck (bs.take 3000) by
        have h := hSk.take (bs.take 3000).length (by rw [List.length_take]; omega)
        rw [show bs.take (bs.take 3000).length = bs.take 3000 by rw [List.length_take]; exact (List.take_eq_take_iff.2 (by omega))] at h
        exact h)
      go_cut [4] (fun v wc => v = .slice Ak (bs.take 3000).length ck ∧ wc = wr)
      case first =>
        by_cases hbig : 3000 < bs.length
        · have hcut := cut93' Ak bs.length ck (by omega) hSk.cap
          go_wp2_with fail
          go_meet
          case rel => exact ⟨by rw [hks, if_pos hbig], rfl⟩
        · go_wp2_with fail
          go_meet
          case rel => exact ⟨by rw [hks, if_neg hbig], rfl⟩
      case rest =>
      obtain ⟨rfl, rfl⟩ := hcut
      clear hks hSk hyr hyr' hc2 hXr
      generalize bs.take 3000 = kk at *
      have C1 := Lib.hid (copyB_calls Ak ck kk _ (HS.out.below hbr) (by omega))
      go_wp2_with fail
      refine C1.out.mono ?_
      clear C1
      rintro e w1 ⟨pc, cc, rfl, hSc, hb1⟩
      have hbr1 := hbr.trans (hb1.mono hbr.size)
      have C2 := ofKey_calls pc cc kk w1 hSc (by omega) (HE.out.below hbr1).max
      clear hSc hb1 hbr
      by_cases hok : (ofKeyL kk).2 = 0
      · obtain ⟨hset, hkey⟩ := ofKey_ok hok
        rw [hok] at C2
        generalize (ofKeyL kk).1 = l at *
        subst hkey
        have HSet := Lib.hid hset
        have C2 := Lib.hid C2
        clear hset hok
        go_wp2_with fail
        refine C2.out.mono ?_
        clear C2
        rintro e w2 ⟨v, rfl, hR, hb2⟩
        obtain ⟨Al, cl, rfl⟩ := Kd.R_slice hR
        have hbr2 := hbr1.trans (hb2.mono hbr1.size)
        have HO := Lib.hid (show OneIn w2 Al cl l from ⟨(Kd.R_reads' hR).2.2, (Kd.R_reads' hR).2.1⟩)
        clear hR hb2 hbr1
        have C3 := Lib.hid (key_one HSet.out w2 HO.out (HE.out.below hbr2))
        go_wp2_with (first | (go_at_call 14; (with_reducible refine (num_calls _ _).mono ?_); rintro en wx ⟨rfl, hwx⟩; subst wx))
        refine C3.out.mono ?_
        clear C3
        rintro e w3 ⟨pk, ck2, rfl, hK, hb3⟩
        have hbr3 := hbr2.trans (hb3.mono hbr2.size)
        have HO3 := Lib.hid (HO.out.below hb3)
        have HK := Lib.hid hK
        clear hK hb3 hbr2 HO
        have C4 := Lib.hid (set_one HSet.out w3 HO3.out)
        go_wp2_with fail
        refine C4.out.mono ?_
        clear C4
        rintro e w4 ⟨As, cs, rfl, hS4, hb4⟩
        have hbr4 := hbr3.trans (hb4.mono hbr3.size)
        have HO4 := Lib.hid (HO3.out.below hb4)
        have HK4 := Lib.hid (HK.out.below hb4)
        have HS4 := Lib.hid hS4
        clear hS4 hb4 hbr3 HO3 HK
        have c5 := eqB_calls pk Ak ck2 ck (keyB l) (keyB l) w4 HK4.out (HS.out.below hbr4) (by omega) (by omega)
        rw [decide_eq_true rfl] at c5
        have C5 := Lib.hid c5
        clear c5
        go_wp2_with (first | (go_at_call 14; (with_reducible refine (num_calls _ _).mono ?_); rintro en wx ⟨rfl, hwx⟩; subst wx))
        refine C5.out.mono ?_
        clear C5
        rintro e w5 ⟨rfl, hb5⟩
        have hbr5 := hbr4.trans (hb5.mono hbr4.size)
        have HO5 := Lib.hid (HO4.out.below hb5)
        have HS5 := Lib.hid (HS4.out.below hb5)
        clear hb5 hbr4 HO4 HS4 HK4
        have C6 := Lib.hid (eq_same HSet.out w5 HS5.out HO5.out)
        go_wp2_with (first | (go_at_call 14; (with_reducible refine (num_calls _ _).mono ?_); rintro en wx ⟨rfl, hwx⟩; subst wx))
        refine C6.out.mono ?_
        clear C6
        rintro e w6 ⟨rfl, hb6⟩
        have hbr6 := hbr5.trans (hb6.mono hbr5.size)
        have HO6 := Lib.hid (HO5.out.below hb6)
        clear hb6 hbr5 HO5 HS5
        have HBR := Lib.hid hbr6
        have hs6 := hbr6.size
        go_wp2_with fail
        go_loopw [11] (fun v wi => ∃ n : Nat, v = .int .i64 n ∧ n ≤ (keyB l).length ∧ Below w6.heap.size w6 wi) (fun v _ => (keyB l).length - (intOf v).toNat)
        case atStart => exact ⟨0, rfl, by omega, Below.refl _ _⟩
        case round =>
          clear hbr6
          obtain ⟨n, rfl, hn, hbi⟩ := hrel
          by_cases hltn : n < (keyB l).length
          · have hbri := HBR.out.trans (hbi.mono hs6)
            have hcut := cut93 Ak (keyB l).length ck n (by omega) HS.out.cap
            have hSn : Sl wr Ak n n ((keyB l).take n) := by
              have h := (HS.out.below hbri).take n (by omega)
              exact ⟨h.bytes, h.len, Nat.le_refl _⟩
            have hnl : ((keyB l).take n).length = n := by rw [List.length_take]; omega
            have C7 := ofKey_calls Ak n ((keyB l).take n) wr (by rw [hnl]; exact hSn) (by omega) (HE.out.below hbri).max
            rw [hnl] at C7
            clear hSn hnl
            by_cases hok : (ofKeyL ((keyB l).take n)).2 = 0
            · obtain ⟨hsetm, hkey⟩ := ofKey_ok hok
              rw [hok] at C7
              generalize (ofKeyL ((keyB l).take n)).1 = m at *
              have HSetM := Lib.hid hsetm
              have HKey := Lib.hid hkey
              have C7 := Lib.hid C7
              clear hok hsetm hkey
              go_wp2_with fail
              refine C7.out.mono ?_
              clear C7 hcut
              rintro e w7 ⟨v, rfl, hR, hb7⟩
              obtain ⟨Am, cm, rfl⟩ := Kd.R_slice hR
              have HM := Lib.hid (show OneIn w7 Am cm m from ⟨(Kd.R_reads' hR).2.2, (Kd.R_reads' hR).2.1⟩)
              have hbi7 := hbi.trans (hb7.mono hbi.size)
              have C8 := Lib.hid (begins_one HSet.out HSetM.out hltn HKey.out w7 (HO6.out.below hbi7) HM.out)
              clear hR hb7 hbi
              go_wp2_with (first | (go_at_call 14; (with_reducible refine (num_calls _ _).mono ?_); rintro en wx ⟨rfl, hwx⟩; subst wx))
              refine C8.out.mono ?_
              clear C8
              rintro e w8 ⟨rfl, hb8⟩
              go_wp2_with fail
              go_roundw
              case rel => exact ⟨n + 1, by go_num, by omega, hbi7.trans (hb8.mono hbi7.size)⟩
              case measure => simp [intOf]; omega
            · rw [ofKey_bad hok] at C7
              have C7 := Lib.hid C7
              clear hok
              go_wp2_with fail
              refine C7.out.mono ?_
              clear C7 hcut
              rintro e w7 ⟨v, rfl, hR, hb7⟩
              obtain ⟨Am, cm, rfl⟩ := Kd.R_slice hR
              have hbi7 := hbi.trans (hb7.mono hbi.size)
              clear hR hb7 hbi
              go_wp2_with (first | (go_at_call 14; (with_reducible refine (num_calls _ _).mono ?_); rintro en wx ⟨rfl, hwx⟩; subst wx))
              go_roundw
              case rel => exact ⟨n + 1, by go_num, by omega, hbi7⟩
              case measure => simp [intOf]; omega
          · go_wp2_with fail
            go_roundw
            case rel => exact ⟨i + 1, by go_num, by omega, HBR.out.trans (hbi.mono hs6)⟩
            case measure => simp [intOf]; omega
      · rw [ofKey_bad hok] at C2
        have C2 := Lib.hid C2
        clear hok
        go_wp2_with fail
        refine C2.out.mono ?_
        rintro e w2 ⟨v, rfl, hR, hb2⟩
        obtain ⟨Ae, ce, rfl⟩ := Kd.R_slice hR
        have hbr2 := hbr1.trans (hb2.mono hbr1.size)
        go_wp2_with (first | (go_at_call 14; (with_reducible refine (num_calls _ _).mono ?_); rintro en wx ⟨rfl, hwx⟩; subst wx))
        go_roundw
        case rel => exact ⟨i + 1, by go_num, by omega, hbr2⟩
        case measure => simp [intOf]; omega
    · have W0 := Lib.hid (works_calls wr (HE.out.below hbr))
      by_cases h1 : i < Bs.length
      · have h60 : i = 60 := by omega
        subst h60
        go_wp2_with fail
        refine W0.out.mono ?_
        rintro en wd ⟨rfl, hbd⟩
        go_wp2_with fail
        go_ret
        have hb := HB0.out.trans (hbr.mono hs0)
        exact ⟨rfl, hb.trans (hbd.mono hb.size)⟩
      · go_wp2_with fail
        refine W0.out.mono ?_
        rintro en wd ⟨rfl, hbd⟩
        go_wp2_with fail
        go_ret
        have hb := HB0.out.trans (hbr.mono hs0)
        exact ⟨rfl, hb.trans (hbd.mono hb.size)⟩

/-! ### how the arguments are read -/
section
open Go.ChangeShapes Go.WideShapes Go.ChangeAt Go.Deep
theorem byte_wf {n : Int} (h : (Lit.int .u8 n).wf = true) : 0 ≤ n ∧ n < 256 := by
  have h1 : IntKind.u8.min = 0 := rfl
  have h2 : IntKind.u8.max = 255 := rfl
  simp only [Lit.wf, Bool.and_eq_true, decide_eq_true_eq] at h
  omega
theorem opensB : Opens kB 5 := by
  intro H enc w base spare held fuel cs x h
  obtain ⟨n, rfl, _, hw⟩ := DataW.trod_int Tryz.underlying5 h
  obtain ⟨h0, h1⟩ := byte_wf hw
  refine ⟨UInt8.ofNat n.toNat, ?_⟩
  show [Value.int .u8 n] = [Value.int .u8 ((UInt8.ofNat n.toNat).toNat : Int)]
  have e : (UInt8.ofNat n.toNat).toNat = n.toNat := Nat.mod_eq_of_lt (by omega)
  rw [e, Int.toNat_of_nonneg h0]
theorem opensBs : Opens (Kd.slice 5 kB) 93 := opens_slice Tryz.underlying93 (by kernel_rfl) opensB
theorem opensBB : Opens (Kd.slice 93 (Kd.slice 5 kB)) 24 := opens_slice Tryz.underlying24 (by kernel_rfl) opensBs
theorem opensLL : Opens (Kd.slice 59 (Kd.slice 130 k130)) 23 := opens_slice Tryz.underlying23 (by kernel_rfl) opens59
theorem opensT : Opens (Kd.slice 9 Kd.string) 22 := opens22
end
end
end Go.Proofs.YtkanfffbdegfoaaGreatDoor.PD
