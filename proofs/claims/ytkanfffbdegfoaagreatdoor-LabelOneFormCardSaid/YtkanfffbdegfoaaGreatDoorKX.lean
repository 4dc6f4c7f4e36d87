/- The contract of label.Compare: the first that differs tells; else the lengths. Its condition: fewer than 2^47 labels each. What label.OfKey makes of bytes, in plain Lean: pieces cut at [0] and at [0, 1]; of a set's key it makes that set. No condition beyond what each states. The order of keys is the order of the labels (label.Compare). No condition beyond what each states. bytes.Cut at bytes in memory, in our words. Its conditions stand in it. The contract of label.OfKey. Its conditions: fewer than 2^32 bytes (bytes.Cut's), package bytealg's variable is a whole number. What Text, Parse, Key, OfKey, Equal and Compare tell of sets, in plain Lean: Parse of Text and OfKey of Key are that set; texts and keys are the same just if the sets are. No condition beyond what each states. -/
import Derived.Test.YtkanfffbdegfoaaGreatDoorKD
import Derived.Test.YtkanfffbdegfoaaGreatDoorKE
import Derived.Test.YtkanfffbdegfoaaGreatDoorCut
import Derived.Test.YtkanfffbdegfoaaGreatDoorKS
import Derived.Test.YtkanfffbdegfoaaGreatDoorKG
namespace Go.Proofs.YtkanfffbdegfoaaGreatDoor.PD
set_option linter.unusedVariables false
set_option linter.unusedSimpArgs false
section
open Go.RowKit Go.Proofs.YtkanfffbdegfoaaGreatDoorW.PrintWords Go.Proofs.YtkanfffbdegfoaaGreatDoorW.PrintLast Go.Proofs.YtkanfffbdegfoaaGreatDoorW.PrintMore

/-- slices.CompareFunc by label.order. -/
def cmpL : List S130 → List S130 → Int
  | [], [] => 0
  | [], _ :: _ => -1
  | _ :: _, [] => 1
  | x :: l, y :: m => if ordL x y = 0 then cmpL l m else ordL x y
theorem below_grow (w : World) (q : Nat) (os : Array Obj) : Below w.heap.size w (Sort.grow (w.drewN q) os) := by
  refine ⟨rfl, rfl, rfl, ?_, fun k hk => ?_⟩
  · show w.heap.size ≤ (w.heap ++ os).size
    rw [Array.size_append]
    omega
  · show (w.heap ++ os)[k]? = _
    rw [Array.getElem?_append_left hk]
set_option maxHeartbeats 1000000 in
set_option maxRecDepth 100000 in
theorem compareFunc_calls (A0 : Option Addr) (c0 : Nat) (l : List S130) (A1 : Option Addr) (c1 : Nat) (m : List S130) (w : World) (hr0 : Kd.C k130 w A0 l.length l) (hr1 : Kd.C k130 w A1 m.length m) (hl : l.length ≤ 140737488355328) (hm : m.length ≤ 140737488355328) :
    Calls Tryz.prog 103 #[.slice A0 l.length c0, .slice A1 m.length c1, .func (.func 101) #[] #[]] w fun e w' => e = .returned (.int .i64 (cmpL l m)) ∧ Below w.heap.size w w' := by
  have HR := Lib.hid hr0
  have HS := Lib.hid hr1
  have he := enter36
  clear hr0 hr1
  go_enter Tryz.func103, Tryz.ntmps103
  go_wp2_with fail
  go_loopw [13] (fun v wr => ∃ k : Nat, v = .int .i64 k ∧ k ≤ l.length ∧ k ≤ m.length ∧ Hid (cmpL l m = cmpL (l.drop k) (m.drop k)) ∧ Below w.heap.size w wr) (fun v _ => l.length - (intOf v).toNat)
  case atStart => exact ⟨0, rfl, by omega, by omega, Lib.hid rfl, Below.refl _ _⟩
  case round =>
    obtain ⟨k, rfl, hk, hkm, hi, hbw⟩ := hrel
    by_cases hlt : k < l.length
    · obtain ⟨ad, rfl, h0, h1⟩ := at_N HR.out k hlt
      have h0' := pw_cell_below hbw h0
      have h1' := pw_cell_below hbw h1
      clear h0 h1
      by_cases hltm : k < m.length
      · obtain ⟨ad2, rfl, h2, h3⟩ := at_N HS.out k hltm
        have h2' := pw_cell_below hbw h2
        have h3' := pw_cell_below hbw h3
        clear h2 h3
        have h2a := fun o => pw_cell_below ((Below.refl wr.heap.size wr).alloc (Nat.le_refl _) o) h2'
        have h3a := fun o => pw_cell_below ((Below.refl wr.heap.size wr).alloc (Nat.le_refl _) o) h3'
        have hlm : decide (m.length ≤ k) = false := decide_eq_false (by omega)
        have hd1 : l.drop k = l[k] :: l.drop (k + 1) := List.drop_eq_getElem_cons hlt
        have hd2 : m.drop k = m[k] :: m.drop (k + 1) := List.drop_eq_getElem_cons hltm
        have HD := Lib.hid (show cmpL l m = if ordL l[k] m[k] = 0 then cmpL (l.drop (k + 1)) (m.drop (k + 1)) else ordL l[k] m[k] by rw [hi.out, hd1, hd2, cmpL])
        clear hd1 hd2 hi
        have HB := Lib.hid (fun o1 o2 => (hbw.alloc hbw.size o1).trans (((Below.refl (wr.alloc o1).heap.size (wr.alloc o1)).alloc (Nat.le_refl _) o2).mono (hbw.alloc hbw.size o1).size))
        go_wp2_with fail
        refine (order_calls l[k] m[k] _).mono ?_
        rintro e w1 ⟨rfl, q, os, rfl⟩
        have hbx := (HB.out (.cells #[.string l[k].f0, .string l[k].f1] 130) (.cells #[.string m[k].f0, .string m[k].f1] 130))
        have hb1 := hbx.trans ((below_grow _ q os).mono hbx.size)
        clear h0' h1' h2' h3' h2a h3a hbx HB
        generalize Sort.grow _ os = w1 at *
        by_cases hz : ordL l[k] m[k] = 0
        · have HE := Lib.hid (show cmpL l m = cmpL (l.drop (k + 1)) (m.drop (k + 1)) by rw [HD.out, if_pos hz])
          have hz2 : (ordL l[k] m[k] != 0) = false := by rw [hz]; rfl
          clear hz HD
          generalize ordL l[k] m[k] = z at *
          go_wp2_with fail
          go_roundw
          case rel => exact ⟨k + 1, by go_num, by omega, by omega, HE, hb1⟩
          case measure => simp [intOf]; omega
        · have HE := Lib.hid (show cmpL l m = ordL l[k] m[k] by rw [HD.out, if_neg hz])
          have hz2 : (ordL l[k] m[k] != 0) = true := bne_iff_ne.2 hz
          clear hz HD
          generalize ordL l[k] m[k] = z at *
          go_wp2_with fail
          go_ret
          exact ⟨by rw [HE.out]; rfl, hb1⟩
      · have hlm : decide (m.length ≤ k) = true := decide_eq_true (by omega)
        have HE := Lib.hid (show cmpL l m = 1 by rw [hi.out, List.drop_eq_getElem_cons hlt, List.drop_eq_nil_of_le (show m.length ≤ k by omega), cmpL])
        have hb1 := fun o => hbw.alloc hbw.size o
        clear hi
        go_wp2_with fail
        go_ret
        exact ⟨by rw [HE.out]; rfl, hb1 _⟩
    · by_cases hltm : k < m.length
      · have HE := Lib.hid (show cmpL l m = -1 by rw [hi.out, List.drop_eq_getElem_cons hltm, List.drop_eq_nil_of_le (show l.length ≤ k by omega), cmpL])
        clear hi
        go_wp2_with fail
        go_ret
        exact ⟨by rw [HE.out]; rfl, hbw⟩
      · have HE := Lib.hid (show cmpL l m = 0 by rw [hi.out, List.drop_eq_nil_of_le (show m.length ≤ k by omega), List.drop_eq_nil_of_le (show l.length ≤ k by omega), cmpL])
        clear hi
        go_wp2_with fail
        go_ret
        exact ⟨by rw [HE.out]; rfl, hbw⟩
set_option maxHeartbeats 1000000 in
theorem compare_calls (A0 : Option Addr) (c0 : Nat) (l : List S130) (A1 : Option Addr) (c1 : Nat) (m : List S130) (w : World) (hr0 : Kd.C k130 w A0 l.length l) (hr1 : Kd.C k130 w A1 m.length m) (hl : l.length ≤ 140737488355328) (hm : m.length ≤ 140737488355328) :
    Calls Tryz.prog 55 #[.slice A0 l.length c0, .slice A1 m.length c1] w fun e w' => e = .returned (.int .i64 (cmpL l m)) ∧ Below w.heap.size w w' := by
  have C := Lib.hid (compareFunc_calls A0 c0 l A1 c1 m w hr0 hr1 hl hm)
  clear hr0 hr1
  revert C
  generalize cmpL l m = z
  intro C
  go_enter Tryz.func55, Tryz.ntmps55
  go_wp2_with fail
  refine C.out.mono ?_
  rintro e w1 ⟨rfl, hb1⟩
  go_wp2
  go_ret
  exact ⟨rfl, hb1⟩
end
section
open Go.RowKit Go.Proofs.YtkanfffbdegfoaaGreatDoorW.PrintWords Go.Proofs.YtkanfffbdegfoaaGreatDoorW.PrintLast Go.Proofs.YtkanfffbdegfoaaGreatDoorW.PrintMore

/-- A value out of a key: each 0 and the 255 behind it is one 0. -/
def unesc : List UInt8 → List UInt8
  | [] => []
  | b :: l => match l with
    | [] => [b]
    | c :: l' => if b = 0 ∧ c = 255 then 0 :: unesc l' else b :: unesc (c :: l')
theorem unesc_two (b c : UInt8) (l : List UInt8) : unesc (b :: c :: l) = if b = 0 ∧ c = 255 then 0 :: unesc l else b :: unesc (c :: l) := by rw [unesc]
theorem unesc_esc : ∀ v : List UInt8, unesc (esc0 v) = v
  | [] => rfl
  | b :: l => by
    have ih := unesc_esc l
    rw [esc0]
    by_cases hb : b = 0
    · rw [if_pos hb, unesc_two, if_pos ⟨rfl, rfl⟩, ih, hb]
    · rw [if_neg hb]
      cases h : esc0 l with
      | nil => rw [h] at ih; rw [← ih]; rfl
      | cons c l' => rw [unesc_two, if_neg (fun h => hb h.1), ← h, ih]
theorem rep2_eq : ∀ (n : Nat) (s : List UInt8), s.length ≤ n → Lib.replaceK [0, 255] [0] (Lib.count s [0, 255]) s = unesc s
  | _, [], _ => by
    have h : Lib.index [] [(0 : UInt8), 255] = -1 := by decide
    rw [Lib.count_miss h]
    rfl
  | 0, _ :: _, h => by simp at h
  | n + 1, b :: l, hl => by
    have hix : Lib.index (b :: l) [0, 255] = if [(0 : UInt8), 255].isPrefixOf (b :: l) = true then 0 else if Lib.index l [0, 255] == -1 then -1 else Lib.index l [0, 255] + 1 := by
      rw [Lib.index]
    by_cases hp : [(0 : UInt8), 255].isPrefixOf (b :: l) = true
    · rw [if_pos hp] at hix
      have h0 : Lib.index (b :: l) [0, 255] = (0 : Nat) := hix
      cases l with
      | nil => simp at hp
      | cons c l' =>
        have hbc : b = 0 ∧ c = 255 := by
          simp at hp
          exact ⟨hp.1.symm, hp.2.symm⟩
        rw [Lib.count_hit (by decide) h0, Nat.add_comm, Lib.replaceK_hit _ _ _ _ 0 h0, unesc_two, if_pos hbc]
        have := rep2_eq n l' (by simp at hl; omega)
        simpa using this
    · have ih := rep2_eq n l (by simp at hl; omega)
      rw [if_neg hp] at hix
      have hu : unesc (b :: l) = b :: unesc l := by
        cases l with
        | nil => rfl
        | cons c l' =>
          rw [unesc_two, if_neg (fun h => hp (by rw [h.1, h.2]; rfl))]
      rw [hu, ← ih]
      by_cases hm : Lib.index l [0, 255] = -1
      · have h1 : Lib.index (b :: l) [0, 255] = -1 := by rw [hix, hm]; rfl
        rw [Lib.count_miss h1, Lib.count_miss hm]
        simp [Lib.replaceK]
      · have hge := Lib.index_ge l [0, 255]
        obtain ⟨i, hi⟩ : ∃ i : Nat, Lib.index l [0, 255] = i := ⟨(Lib.index l [0, 255]).toNat, by omega⟩
        have h1 : Lib.index (b :: l) [0, 255] = (i + 1 : Nat) := by
          rw [hix, if_neg (by rw [beq_iff_eq]; exact hm), hi]
          rfl
        have hc : Lib.count (b :: l) [0, 255] = Lib.count l [0, 255] := by
          rw [Lib.count_hit (by decide) h1, Lib.count_hit (by decide) hi]
          simp [Nat.add_right_comm]
        rw [hc, Lib.count_hit (by decide) hi, Nat.add_comm, Lib.replaceK_hit _ _ _ _ (i + 1) h1, Lib.replaceK_hit _ _ _ _ i hi]
        simp [Nat.add_right_comm]
theorem unesc_eq (s : List UInt8) : Lib.replaceAll s [0, 255] [0] = unesc s := by
  rw [Lib.replaceAll, Lib.replace, if_neg (by decide), Lib.replaceNum, if_pos (Or.inl (by decide)), rep2_eq s.length s (Nat.le_refl _)]
theorem up_one (n : Nat) : (if ((n : Int) == -1) = true then (-1 : Int) else (n : Int) + 1) = ((n + 1 : Nat) : Int) := by
  rw [if_neg (by rw [beq_iff_eq]; omega)]
  rfl
/-- Where 0 first stands. -/
theorem idx_zero : ∀ (n rest : List UInt8), (∀ b ∈ n, b ≠ 0) → Lib.index (n ++ 0 :: rest) [0] = (n.length : Int)
  | [], rest, _ => by rw [List.nil_append, Lib.index]; rfl
  | b :: n, rest, h => by
    have ih := idx_zero n rest (fun x hx => h x (List.mem_cons_of_mem _ hx))
    have hb : b ≠ 0 := h b List.mem_cons_self
    have hp : ¬ [(0 : UInt8)].isPrefixOf (b :: (n ++ 0 :: rest)) = true := by
      simp
      exact fun e => hb e.symm
    rw [List.cons_append, Lib.index, if_neg hp, ih, up_one]
    rfl
/-- Where 0, 1 first stand behind a value of a key. -/
theorem idx_end : ∀ (v rest : List UInt8), Lib.index (esc0 v ++ 0 :: 1 :: rest) [0, 1] = ((esc0 v).length : Int)
  | [], rest => by rw [esc0, List.nil_append, Lib.index]; rfl
  | b :: v, rest => by
    have ih := idx_end v rest
    rw [esc0]
    by_cases hb : b = 0
    · have h1 : Lib.index (255 :: (esc0 v ++ 0 :: 1 :: rest)) [0, 1] = (((esc0 v).length + 1 : Nat) : Int) := by
        rw [Lib.index, if_neg (by simp), ih, up_one]
      rw [if_pos hb, List.cons_append, List.cons_append, Lib.index, if_neg (by simp), h1, up_one]
      rfl
    · have hp : ¬ [(0 : UInt8), 1].isPrefixOf (b :: (esc0 v ++ 0 :: 1 :: rest)) = true := by
        simp
        exact fun e => absurd e.symm hb
      rw [if_neg hb, List.cons_append, Lib.index, if_neg hp, ih, up_one]
      rfl

/-- label.OfKey's loop. -/
def ofK : Nat → List UInt8 → List S130 → Option (List S130)
  | 0, rest, acc => if rest = [] then some acc else none
  | f + 1, rest, acc =>
    if rest = [] then some acc else
    if Lib.index rest [0] < 0 then none else
    if Lib.index (rest.drop ((Lib.index rest [0]).toNat + 1)) [0, 1] < 0 ∨ acc.length = 16 then none else
    ofK f ((rest.drop ((Lib.index rest [0]).toNat + 1)).drop ((Lib.index (rest.drop ((Lib.index rest [0]).toNat + 1)) [0, 1]).toNat + 2))
      (acc ++ [⟨⟨(rest.take (Lib.index rest [0]).toNat).toArray⟩, ⟨(unesc ((rest.drop ((Lib.index rest [0]).toNat + 1)).take (Lib.index (rest.drop ((Lib.index rest [0]).toNat + 1)) [0, 1]).toNat)).toArray⟩⟩])
/-- label.OfKey. -/
def ofKeyL (b : List UInt8) : List S130 × Int :=
  match ofK b.length b [] with
  | none => ([], 134)
  | some l => if isSetL l = true ∧ keyB l = b then (l, 0) else ([], 134)
theorem ofK_one (f : Nat) (n v rest : List UInt8) (acc : List S130) (hn : ∀ b ∈ n, b ≠ 0) (ha : acc.length ≠ 16) :
    ofK (f + 1) (n ++ [0] ++ esc0 v ++ [0, 1] ++ rest) acc = ofK f rest (acc ++ [⟨⟨n.toArray⟩, ⟨v.toArray⟩⟩]) := by
  have e : n ++ [0] ++ esc0 v ++ [0, 1] ++ rest = n ++ 0 :: (esc0 v ++ 0 :: 1 :: rest) := by simp
  have h1 : Lib.index (n ++ 0 :: (esc0 v ++ 0 :: 1 :: rest)) [0] = (n.length : Int) := idx_zero n _ hn
  have h2 : (n ++ 0 :: (esc0 v ++ 0 :: 1 :: rest)).drop (n.length + 1) = esc0 v ++ 0 :: 1 :: rest := by
    rw [show n.length + 1 = n.length + 1 from rfl, List.drop_append]
    simp
  have h3 : (esc0 v ++ 0 :: 1 :: rest).drop ((esc0 v).length + 2) = rest := by
    rw [List.drop_append]
    simp
  rw [e, ofK, if_neg (by simp), h1, if_neg (by omega), Int.toNat_natCast, h2, idx_end, if_neg (by omega), Int.toNat_natCast, h3]
  simp [unesc_esc]
theorem ofK_key : ∀ (l : List S130) (f : Nat) (acc : List S130), (∀ x ∈ l, ∀ b ∈ x.f0.data.toList, b ≠ 0) → acc.length + l.length ≤ 16 → l.length ≤ f → ofK f (keyB l) acc = some (acc ++ l)
  | [], f, acc, _, _, _ => by cases f <;> simp [ofK, keyB]
  | x :: l, 0, acc, _, _, h => by simp at h
  | x :: l, f + 1, acc, hx, ha, hf => by
    have e : keyB (x :: l) = x.f0.data.toList ++ [0] ++ esc0 x.f1.data.toList ++ [0, 1] ++ keyB l := by simp [keyB, keyP]
    rw [e, ofK_one f _ _ _ acc (hx x List.mem_cons_self) (by simp at ha; omega), ofK_key l f _ (fun y hy => hx y (List.mem_cons_of_mem _ hy)) (by simp at ha ⊢; omega) (by simpa using hf)]
    simp
theorem name_nz {s : ByteArray} (h : nameB s = true) : ∀ b ∈ s.data.toList, b ≠ 0 := by
  intro b hb e
  subst e
  rw [nameB, Bool.and_eq_true, List.all_eq_true] at h
  exact absurd (h.2 0 hb) (by decide)
theorem set_nz {l : List S130} (h : isSetL l = true) : ∀ x ∈ l, ∀ b ∈ x.f0.data.toList, b ≠ 0 := by
  intro x hx
  rw [isSetL, Bool.and_eq_true, Bool.and_eq_true, List.all_eq_true] at h
  have := h.1.2 x hx
  rw [goodL, Bool.and_eq_true, Bool.and_eq_true] at this
  exact name_nz this.1.1
theorem set_16 {l : List S130} (h : isSetL l = true) : l.length ≤ 16 := by
  rw [isSetL, Bool.and_eq_true, Bool.and_eq_true] at h
  exact of_decide_eq_true h.1.1
theorem keyB_ge : ∀ l : List S130, l.length ≤ (keyB l).length
  | [] => Nat.le_refl _
  | x :: l => by
    have ih := keyB_ge l
    have e : keyB (x :: l) = keyP x ++ keyB l := by simp [keyB]
    rw [e, List.length_append, List.length_cons, keyP]
    simp
    omega
/-- OfKey of a set's key is that set. -/
theorem ofKey_key {l : List S130} (h : isSetL l = true) : ofKeyL (keyB l) = (l, 0) := by
  have h1 : ofK (keyB l).length (keyB l) [] = some l := by
    have := ofK_key l (keyB l).length [] (set_nz h) (by simpa using set_16 h) (keyB_ge l)
    simpa using this
  rw [ofKeyL, h1]
  simp [h]
/-- What OfKey takes is the key of what it tells, and that is a set. -/
theorem ofKey_ok {b : List UInt8} (h : (ofKeyL b).2 = 0) : isSetL (ofKeyL b).1 = true ∧ keyB (ofKeyL b).1 = b := by
  unfold ofKeyL at h ⊢
  cases he : ofK b.length b [] with
  | none => rw [he] at h; simp at h
  | some l =>
    rw [he] at h
    simp only at h ⊢
    by_cases hc : isSetL l = true ∧ keyB l = b
    · rw [if_pos hc]; exact hc
    · rw [if_neg hc] at h; simp at h
theorem ofKey_bad {b : List UInt8} (h : (ofKeyL b).2 ≠ 0) : ofKeyL b = ([], 134) := by
  unfold ofKeyL at h ⊢
  cases he : ofK b.length b [] with
  | none => rfl
  | some l =>
    rw [he] at h
    simp only at h ⊢
    by_cases hc : isSetL l = true ∧ keyB l = b
    · rw [if_pos hc] at h; simp at h
    · rw [if_neg hc]
/-! ### a key that begins a key -/
theorem zero_split : ∀ (n n' r r' : List UInt8), (∀ b ∈ n, b ≠ 0) → (∀ b ∈ n', b ≠ 0) → n ++ 0 :: r = n' ++ 0 :: r' → n = n' ∧ r = r'
  | [], [], r, r', _, _, h => by simpa using h
  | [], b :: n', r, r', _, h2, h => by
    simp at h
    exact absurd h.1.symm (h2 b List.mem_cons_self)
  | b :: n, [], r, r', h1, _, h => by
    simp at h
    exact absurd h.1 (h1 b List.mem_cons_self)
  | b :: n, c :: n', r, r', h1, h2, h => by
    simp only [List.cons_append, List.cons.injEq] at h
    obtain ⟨e, h⟩ := h
    obtain ⟨e1, e2⟩ := zero_split n n' r r' (fun x hx => h1 x (List.mem_cons_of_mem _ hx)) (fun x hx => h2 x (List.mem_cons_of_mem _ hx)) h
    exact ⟨by rw [e, e1], e2⟩
theorem end_split (v v' r r' : List UInt8) (h : esc0 v ++ 0 :: 1 :: r = esc0 v' ++ 0 :: 1 :: r') : v = v' ∧ r = r' := by
  have h1 := idx_end v r
  have h2 := idx_end v' r'
  rw [h, h2] at h1
  have hl : (esc0 v).length = (esc0 v').length := by omega
  obtain ⟨e1, e2⟩ := List.append_inj h hl
  refine ⟨?_, by simpa using e2⟩
  rw [← unesc_esc v, e1, unesc_esc]
theorem s_ext {x y : S130} (h0 : x.f0.data.toList = y.f0.data.toList) (h1 : x.f1.data.toList = y.f1.data.toList) : x = y := by
  obtain ⟨⟨⟨a⟩⟩, ⟨⟨b⟩⟩⟩ := x
  obtain ⟨⟨⟨c⟩⟩, ⟨⟨d⟩⟩⟩ := y
  simp only at h0 h1
  rw [h0, h1]
/-- A set whose key begins another set's key begins that set. -/
theorem key_prefix : ∀ (m l : List S130) (t : List UInt8), (∀ x ∈ m, ∀ b ∈ x.f0.data.toList, b ≠ 0) → (∀ x ∈ l, ∀ b ∈ x.f0.data.toList, b ≠ 0) → keyB l = keyB m ++ t → ∃ r, l = m ++ r
  | [], l, _, _, _, _ => ⟨l, rfl⟩
  | y :: m, [], t, _, _, h => by
    have e : keyB (y :: m) = keyP y ++ keyB m := by simp [keyB]
    rw [e, keyP] at h
    simp [keyB] at h
  | y :: m, x :: l, t, hm, hl, h => by
    have e1 : keyB (y :: m) = y.f0.data.toList ++ 0 :: (esc0 y.f1.data.toList ++ 0 :: 1 :: keyB m) := by simp [keyB, keyP]
    have e2 : keyB (x :: l) = x.f0.data.toList ++ 0 :: (esc0 x.f1.data.toList ++ 0 :: 1 :: keyB l) := by simp [keyB, keyP]
    rw [e1, e2, List.append_assoc, List.cons_append, List.append_assoc, List.cons_append, List.cons_append] at h
    obtain ⟨a1, a2⟩ := zero_split _ _ _ _ (hl x List.mem_cons_self) (hm y List.mem_cons_self) h
    obtain ⟨b1, b2⟩ := end_split _ _ _ _ a2
    obtain ⟨r, hr⟩ := key_prefix m l t (fun z hz => hm z (List.mem_cons_of_mem _ hz)) (fun z hz => hl z (List.mem_cons_of_mem _ hz)) b2
    exact ⟨r, by rw [s_ext a1 b1, hr]; rfl⟩
/-! ### the order of keys -/
theorem cb_cons (x y : UInt8) (a b : List UInt8) : Lib.compareBytes (x :: a) (y :: b) = if x < y then -1 else if y < x then 1 else Lib.compareBytes a b := by rw [Lib.compareBytes]
theorem cb_same (x : UInt8) (a b : List UInt8) : Lib.compareBytes (x :: a) (x :: b) = Lib.compareBytes a b := by
  rw [cb_cons, if_neg (UInt8.lt_irrefl x), if_neg (UInt8.lt_irrefl x)]
theorem pos_of {b : UInt8} (h : b ≠ 0) : (0 : UInt8) < b := by
  rw [UInt8.lt_iff_toNat_lt]
  have : b.toNat ≠ 0 := fun e => h (UInt8.toNat_inj.1 e)
  show 0 < b.toNat
  omega
theorem cmp_zero : ∀ (n n' r r' : List UInt8), (∀ b ∈ n, b ≠ 0) → (∀ b ∈ n', b ≠ 0) → Lib.compareBytes (n ++ 0 :: r) (n' ++ 0 :: r') = if n = n' then Lib.compareBytes r r' else Lib.compareBytes n n'
  | [], [], r, r', _, _ => by simp [cb_same]
  | [], b :: n', r, r', _, h2 => by
    rw [List.nil_append, List.cons_append, cb_cons, if_pos (pos_of (h2 b List.mem_cons_self)), if_neg (by simp)]
    rfl
  | b :: n, [], r, r', h1, _ => by
    have hb := pos_of (h1 b List.mem_cons_self)
    rw [List.nil_append, List.cons_append, cb_cons, if_neg (UInt8.lt_asymm hb), if_pos hb, if_neg (by simp)]
    rfl
  | b :: n, c :: n', r, r', h1, h2 => by
    have ih := cmp_zero n n' r r' (fun x hx => h1 x (List.mem_cons_of_mem _ hx)) (fun x hx => h2 x (List.mem_cons_of_mem _ hx))
    rw [List.cons_append, List.cons_append, cb_cons, ih]
    by_cases e : b = c
    · subst e
      rw [if_neg (UInt8.lt_irrefl b), if_neg (UInt8.lt_irrefl b), cb_same]
      simp
    · rw [if_neg (show ¬ b :: n = c :: n' by simp [e]), cb_cons]
      by_cases hl : b < c
      · rw [if_pos hl, if_pos hl]
      · have hg : c < b := by
          rcases UInt8.lt_or_lt_of_ne e with h | h
          · exact absurd h hl
          · exact h
        rw [if_neg hl, if_pos hg, if_neg hl, if_pos hg]
theorem cmp_end : ∀ (v v' r r' : List UInt8), Lib.compareBytes (esc0 v ++ 0 :: 1 :: r) (esc0 v' ++ 0 :: 1 :: r') = if v = v' then Lib.compareBytes r r' else Lib.compareBytes v v'
  | [], [], r, r' => by simp [cb_same, esc0]
  | [], c :: v', r, r' => by
    rw [if_neg (by simp), esc0, esc0]
    by_cases hc : c = 0
    · rw [if_pos hc, List.nil_append, List.cons_append, List.cons_append, cb_same, cb_cons, if_pos (by decide)]
      rfl
    · rw [if_neg hc, List.nil_append, List.cons_append, cb_cons, if_pos (pos_of hc)]
      rfl
  | b :: v, [], r, r' => by
    rw [if_neg (by simp), esc0, esc0]
    by_cases hb : b = 0
    · rw [if_pos hb, List.nil_append, List.cons_append, List.cons_append, cb_same, cb_cons, if_neg (by decide), if_pos (by decide)]
      rfl
    · rw [if_neg hb, List.nil_append, List.cons_append, cb_cons, if_neg (UInt8.lt_asymm (pos_of hb)), if_pos (pos_of hb)]
      rfl
  | b :: v, c :: v', r, r' => by
    have ih := cmp_end v v' r r'
    by_cases e : b = c
    · subst e
      rw [esc0, esc0]
      by_cases hb : b = 0
      · rw [if_pos hb, if_pos hb, List.cons_append, List.cons_append, List.cons_append, List.cons_append, cb_same, cb_same, ih, cb_same]
        simp
      · rw [if_neg hb, if_neg hb, List.cons_append, List.cons_append, cb_same, ih, cb_same]
        simp
    · have hh : ∃ t, esc0 (b :: v) ++ 0 :: 1 :: r = b :: t := by
        rw [esc0]
        by_cases hb : b = 0
        · rw [if_pos hb, hb]; exact ⟨_, rfl⟩
        · rw [if_neg hb]; exact ⟨_, rfl⟩
      have hh' : ∃ t, esc0 (c :: v') ++ 0 :: 1 :: r' = c :: t := by
        rw [esc0]
        by_cases hb : c = 0
        · rw [if_pos hb, hb]; exact ⟨_, rfl⟩
        · rw [if_neg hb]; exact ⟨_, rfl⟩
      obtain ⟨t, ht⟩ := hh
      obtain ⟨t', ht'⟩ := hh'
      rw [ht, ht', if_neg (show ¬ b :: v = c :: v' by simp [e]), cb_cons, cb_cons]
      by_cases hl : b < c
      · rw [if_pos hl, if_pos hl]
      · have hg : c < b := by
          rcases UInt8.lt_or_lt_of_ne e with h | h
          · exact absurd h hl
          · exact h
        rw [if_neg hl, if_pos hg, if_neg hl, if_pos hg]
end
section
open Go.RowKit Go.Proofs.YtkanfffbdegfoaaGreatDoorW.PrintWords Go.Proofs.YtkanfffbdegfoaaGreatDoorW.PrintLast Go.Proofs.YtkanfffbdegfoaaGreatDoorW.PrintMore

theorem cb_eq_self : ∀ a : List UInt8, Lib.compareBytes a a = 0
  | [] => rfl
  | x :: a => by rw [cb_same, cb_eq_self a]
theorem key_cmp : ∀ (l m : List S130), (∀ x ∈ l, ∀ b ∈ x.f0.data.toList, b ≠ 0) → (∀ x ∈ m, ∀ b ∈ x.f0.data.toList, b ≠ 0) → Lib.compareBytes (keyB l) (keyB m) = cmpL l m
  | [], [], _, _ => rfl
  | [], y :: m, _, _ => by
    have e1 : keyB (y :: m) = y.f0.data.toList ++ 0 :: (esc0 y.f1.data.toList ++ 0 :: 1 :: keyB m) := by simp [keyB, keyP]
    rw [e1, cmpL]
    cases y.f0.data.toList <;> rfl
  | x :: l, [], _, _ => by
    have e1 : keyB (x :: l) = x.f0.data.toList ++ 0 :: (esc0 x.f1.data.toList ++ 0 :: 1 :: keyB l) := by simp [keyB, keyP]
    rw [e1, cmpL]
    cases x.f0.data.toList <;> rfl
  | x :: l, y :: m, hl, hm => by
    have e1 : keyB (y :: m) = y.f0.data.toList ++ 0 :: (esc0 y.f1.data.toList ++ 0 :: 1 :: keyB m) := by simp [keyB, keyP]
    have e2 : keyB (x :: l) = x.f0.data.toList ++ 0 :: (esc0 x.f1.data.toList ++ 0 :: 1 :: keyB l) := by simp [keyB, keyP]
    have ih := key_cmp l m (fun z hz => hl z (List.mem_cons_of_mem _ hz)) (fun z hz => hm z (List.mem_cons_of_mem _ hz))
    rw [e1, e2, cmp_zero _ _ _ _ (hl x List.mem_cons_self) (hm y List.mem_cons_self), cmp_end, ih, cmpL, ordL, orV]
    by_cases h0 : x.f0.data.toList = y.f0.data.toList
    · rw [if_pos h0, h0, cb_eq_self, if_pos rfl]
      by_cases h1 : x.f1.data.toList = y.f1.data.toList
      · rw [if_pos h1, h1, cb_eq_self, if_pos rfl]
      · rw [if_neg h1, if_neg (fun h => h1 (cb_zero h))]
    · have hz : Lib.compareBytes x.f0.data.toList y.f0.data.toList ≠ 0 := fun h => h0 (cb_zero h)
      rw [if_neg h0, if_neg hz, if_neg hz]
end
section
open Go.RowKit Go.Proofs.YtkanfffbdegfoaaGreatDoorW.PrintWords Go.Proofs.YtkanfffbdegfoaaGreatDoorW.PrintLast Go.Proofs.YtkanfffbdegfoaaGreatDoorW.PrintMore

/-- A slice of those bytes. -/
structure Sl (w : World) (p : Option Addr) (n c : Nat) (bs : List UInt8) : Prop where
  bytes : Lib.BytesIn w p n (ints bs)
  len : bs.length = n
  cap : n ≤ c
theorem ints_range (bs : List UInt8) : ∀ x ∈ ints bs, 0 ≤ x ∧ x < 256 := by
  intro x hx
  obtain ⟨b, _, rfl⟩ := List.mem_map.1 hx
  have := b.toNat_lt
  omega
theorem bytesOf_of_ints (bs : List UInt8) : Lib.bytesOf (ints bs) = bs := by
  unfold Lib.bytesOf ints
  rw [List.map_map]
  conv => rhs; rw [← List.map_id bs]
  refine List.map_congr_left fun b _ => ?_
  apply UInt8.toNat_inj.1
  simp
theorem cut_calls (p1 p2 : Option Addr) (n c1 k c2 : Nat) (bs sep : List UInt8) (w : World) (h1 : Sl w p1 n c1 bs) (h2 : Sl w p2 k c2 sep) (hn : n < 4294967281) (hk : k ≤ 2) (hp : p1 = none → c1 = 0) (hM : MaxOk w) :
    Calls Tryz.prog 94 #[.slice p1 n c1, .slice p2 k c2] w fun e w' => e = .returned (Lib.cutV p1 n c1 k (Lib.index bs sep)) ∧ Below w.heap.size w w' := by
  obtain ⟨m, hm⟩ := hM
  have := Any.bytes_Cut_all Tryz.cut p1 p2 n c1 k c2 (ints bs) (ints sep) m w (by rw [ints_length]; exact h1.len) (by rw [ints_length]; exact h2.len) (ints_range bs) (ints_range sep) h1.bytes h2.bytes hp h1.cap hn (by omega) hm
  rw [bytesOf_of_ints, bytesOf_of_ints] at this
  refine this.mono ?_
  rintro e w' ⟨he, q, rfl⟩
  exact ⟨he, pw_below_drewN (Below.refl _ _) q⟩
theorem ints_getD (bs : List UInt8) (i : Nat) (h : i < bs.length) : (ints bs).getD i 0 = (bs[i].toNat : Int) := by
  simp [ints, List.getD_eq_getElem?_getD, List.getElem?_map, List.getElem?_eq_getElem h]
theorem Sl.take {w : World} {p : Option Addr} {n c : Nat} {bs : List UInt8} (h : Sl w p n c bs) (i : Nat) (hi : i ≤ n) : Sl w p i c (bs.take i) := by
  have hl := h.len
  refine ⟨fun hp => ?_, by rw [List.length_take]; omega, Nat.le_trans hi h.cap⟩
  obtain ⟨b, o, e, hc⟩ := h.bytes.at (by omega)
  refine ⟨b, o, e, fun j hj => ?_⟩
  rw [hc j (by omega), ints_getD _ _ (by omega), ints_getD _ _ (by rw [List.length_take]; omega), List.getElem_take]
theorem Sl.from {w : World} {p : Option Addr} {n c : Nat} {bs : List UInt8} (h : Sl w p n c bs) (j : Nat) (hj : j ≤ n) : Sl w (if c = j then p else p.map (fun x => x.add j)) (n - j) (c - j) (bs.drop j) := by
  have hl := h.len
  have hcap := h.cap
  refine ⟨fun hp => ?_, by rw [List.length_drop]; omega, by omega⟩
  obtain ⟨b, o, e, hc⟩ := h.bytes.at (by omega)
  subst e
  rw [if_neg (by omega)]
  refine ⟨b, o + j, by rw [Option.map_some, Go.WideShapes.add_plain], fun i hi => ?_⟩
  rw [Nat.add_assoc, hc (j + i) (by omega), ints_getD _ _ (by omega), ints_getD _ _ (by rw [List.length_drop]; omega), List.getElem_drop]
theorem Sl.ofC {w : World} {p : Option Addr} {c : Nat} {bs : List UInt8} (h : Kd.C (Kd.int .u8) w p bs.length (ints bs)) (hc : bs.length ≤ c) : Sl w p bs.length c bs := by
  refine ⟨fun hn => ?_, rfl, hc⟩
  obtain ⟨_, _, h2⟩ := Kd.reads_of_C (enc := Value.int .u8) (d := (0 : Int)) (h1 := fun _ => rfl) h
  obtain ⟨ad, rfl, hcell⟩ := h2 hn
  exact Lib.BytesIn.of_cells hcell hn
theorem Sl.C {w : World} {p : Option Addr} {n c : Nat} {bs : List UInt8} (h : Sl w p n c bs) (hn : n ≤ 9223372036854775807) : Kd.C (Kd.int .u8) w p bs.length (ints bs) := by
  have hl := h.len
  refine Kd.C_of_reads (enc := Value.int .u8) (d := (0 : Int)) (h1 := fun _ => rfl) ⟨by rw [ints_length], by omega, fun hp => ?_⟩
  obtain ⟨b, o, rfl, hc⟩ := h.bytes.at (by omega)
  exact ⟨_, rfl, fun j hj => by rw [Go.WideShapes.add_plain]; exact hc j (by omega)⟩
end
section
open Go.RowKit Go.Proofs.YtkanfffbdegfoaaGreatDoorW.PrintWords Go.Proofs.YtkanfffbdegfoaaGreatDoorW.PrintLast Go.Proofs.YtkanfffbdegfoaaGreatDoorW.PrintMore
theorem Sl.below {w w' : World} {p : Option Addr} {n c : Nat} {bs : List UInt8} (h : Sl w p n c bs) (hb : Below w.heap.size w w') : Sl w' p n c bs :=
  ⟨fun hp => by
    obtain ⟨b, o, e, hc⟩ := h.bytes.at hp
    exact ⟨b, o, e, fun j hj => pw_cell_below hb (hc j hj)⟩, h.len, h.cap⟩
theorem sl_one {w : World} {g : Nat} (h : w.heap[g]? = some (.cells #[.int .u8 0] 5 (0, 0))) : Sl w (some ⟨g, 0, none⟩) 1 1 [0] :=
  ⟨fun _ => ⟨g, 0, rfl, fun j hj => by
    obtain rfl : j = 0 := by omega
    exact cell_at h 0⟩, rfl, Nat.le_refl _⟩
theorem sl_two {w : World} {g : Nat} (h : w.heap[g]? = some (.cells #[.int .u8 0, .int .u8 1] 5 (0, 0))) : Sl w (some ⟨g, 0, none⟩) 2 2 [0, 1] :=
  ⟨fun _ => ⟨g, 0, rfl, fun j hj => by
    rcases Nat.lt_succ_iff_lt_or_eq.1 hj with h1 | h1
    · obtain rfl : j = 0 := by omega
      exact cell_at h 0
    · subst h1; exact cell_at h 1⟩, rfl, Nat.le_refl _⟩
theorem str_ints (bs : List UInt8) : strOfNums (ints bs) = ⟨bs.toArray⟩ := by
  have e : (ints bs).map (fun n => UInt8.ofNat n.toNat) = bs := by
    rw [ints, List.map_map]
    conv => rhs; rw [← List.map_id bs]
    refine List.map_congr_left fun b _ => ?_
    simp
  rw [strOfNums, e]
theorem conv_sl {w : World} {p : Option Addr} {n c : Nat} {bs : List UInt8} (h : Sl w p n c bs) (hn : n ≤ 9223372036854775807) : (convert 93 9 (.slice p n c)).run Tryz.prog w = .ok (.string ⟨bs.toArray⟩) w := by
  have hl := h.len
  subst hl
  rw [← str_ints]
  exact Kd.C_string Tryz.underlying93 Tryz.underlying5 Tryz.underlying9 (h.C hn)
theorem bequal_calls (v1 v2 : Value) (a b : ByteArray) (w : World) (h1 : (convert 93 9 v1).run Tryz.prog w = .ok (.string a) w) (h2 : (convert 93 9 v2).run Tryz.prog w = .ok (.string b) w) :
    Calls Tryz.prog 95 #[v1, v2] w fun e w' => e = .returned (.bool (a.toList == b.toList)) ∧ w' = w := by
  go_enter Tryz.func95, Tryz.ntmps95
  go_wp2
  go_ret
  exact ⟨rfl, rfl⟩
theorem ba_beq (a b : ByteArray) : (a.toList == b.toList) = decide (a.data.toList = b.data.toList) := by
  rw [ByteArray.toList_eq, ByteArray.toList_eq]
  by_cases h : a.data.toList = b.data.toList
  · rw [h]; simp
  · rw [decide_eq_false h]; exact beq_false_of_ne h
theorem repl2_calls (s : ByteArray) (w : World) (hM : MaxOk w) (hs : s.size ≤ 100000) :
    Calls Tryz.prog 91 #[.string s, .string ⟨#[0, 255]⟩, .string ⟨#[0]⟩] w fun e w' => e = .returned (.string ⟨(unesc s.data.toList).toArray⟩) ∧ Below w.heap.size w w' := by
  obtain ⟨m, hm⟩ := hM
  have h1 : (⟨#[0]⟩ : ByteArray).size = 1 := rfl
  have h2 : (⟨#[0, 255]⟩ : ByteArray).size = 2 := rfl
  have hc := Lib.countB_le ⟨#[0, 255]⟩ (by rw [h2]; decide) s.size s (Nat.le_refl _)
  have := Tryz.strings_ReplaceAll s ⟨#[0, 255]⟩ ⟨#[0]⟩ m w (by omega) hm (by rw [h2]; decide) (by rw [h1]; omega)
  rw [← unesc_eq]
  exact this
set_option maxHeartbeats 4000000 in
set_option maxRecDepth 100000 in
theorem ofKey_calls (p : Option Addr) (c : Nat) (bs : List UInt8) (w : World) (h : Sl w p bs.length c bs) (hn : bs.length ≤ 100000) (hM : MaxOk w) :
    Calls Tryz.prog 46 #[.slice p bs.length c] w fun e w' => ∃ v, e = .returned (.tuple #[v, .int .i64 (ofKeyL bs).2]) ∧ Kd.R k130 130 w' w.heap.size (fun _ => True) v (ofKeyL bs).1 ∧ Below w.heap.size w w' := by
  have HH := Lib.hid h
  have HM := Lib.hid hM
  clear h hM
  go_enter Tryz.func46, Tryz.ntmps46
  go_wp2_with fail
  go_loopw [4, 5] (fun v4 v5 wr => ∃ (f : Nat) (rest : List UInt8) (acc : List S130) (p5 : Option Addr) (c5 : Nat), v5 = .slice p5 rest.length c5 ∧ Hid (Sl w p5 rest.length c5 rest) ∧ rest.length ≤ f ∧ f ≤ bs.length ∧ Hid (ofK bs.length bs [] = ofK f rest acc) ∧ acc.length ≤ 16 ∧ Hid (Kd.R k130 130 wr w.heap.size (fun _ => True) v4 acc) ∧ Below w.heap.size w wr) (fun _ v _ => match v with | .slice _ n _ => n | _ => 0)
  case atStart => exact ⟨bs.length, bs, [], p, c, rfl, HH, Nat.le_refl _, Nat.le_refl _, Lib.hid rfl, by simp, Lib.hid (Kd.R_nil _ _ _ _ _), Below.refl _ _⟩
  case round =>
    obtain ⟨f, rest, acc, p5, c5, rfl, hS, hf, hfb, hK, ha, hR, hbw⟩ := hrel
    by_cases hr : 0 < rest.length
    · have hS' := Lib.hid (hS.out.below hbw)
      have hp5 : p5 = none → c5 = 0 := fun h => by obtain ⟨_, _, e, _⟩ := hS.out.bytes.at hr; rw [h] at e; cases e
      have hb1 := hbw.alloc hbw.size (.cells #[.int .u8 0] 5)
      have C1 := Lib.hid (cut_calls p5 (some ⟨wr.heap.size, 0, none⟩) rest.length c5 1 1 rest [0] (wr.alloc (.cells #[.int .u8 0] 5)) (hS'.out.below ((Below.refl _ _).alloc (Nat.le_refl _) _)) (sl_one (heap_alloc_new _ _)) (by omega) (by omega) hp5 (HM.out.below hb1))
      go_wp2_with fail
      refine C1.out.mono ?_
      rintro e w1 ⟨rfl, hbc1⟩
      by_cases hi : 0 ≤ Lib.index rest [0]
      · rw [Lib.cutV, if_pos hi]
        obtain ⟨i, hix⟩ : ∃ i : Nat, Lib.index rest [0] = i := ⟨(Lib.index rest [0]).toNat, (Int.toNat_of_nonneg hi).symm⟩
        have hroom := Lib.index_room rest [0] hi
        rw [hix] at hroom ⊢
        rw [Int.toNat_natCast]
        have hi1 : i + 1 ≤ rest.length := by simp at hroom; omega
        have hSn := Lib.hid (hS.out.take i (by omega))
        have hSa := hS.out.from (i + 1) hi1
        rw [show Lib.fromV p5 rest.length c5 (i + 1) = .slice (if c5 = i + 1 then p5 else p5.map (fun x => x.add (i + 1))) (rest.length - (i + 1)) (c5 - (i + 1)) from rfl]
        have hK1 : ofK bs.length bs [] = if Lib.index (rest.drop (i + 1)) [0, 1] < 0 ∨ acc.length = 16 then none else
            ofK (f - 1) ((rest.drop (i + 1)).drop ((Lib.index (rest.drop (i + 1)) [0, 1]).toNat + 2)) (acc ++ [⟨⟨(rest.take i).toArray⟩, ⟨(unesc ((rest.drop (i + 1)).take (Lib.index (rest.drop (i + 1)) [0, 1]).toNat)).toArray⟩⟩]) := by
          obtain ⟨f', rfl⟩ : ∃ f', f = f' + 1 := ⟨f - 1, by omega⟩
          rw [hK.out, ofK, if_neg (by rintro rfl; simp at hr), if_neg (by omega), hix, Int.toNat_natCast]
          rfl
        have hal : (rest.drop (i + 1)).length = rest.length - (i + 1) := List.length_drop
        have HNM := Lib.hid (show (rest.take i).length ≤ 100000 by rw [List.length_take]; omega)
        have hpa : (if c5 = i + 1 then p5 else p5.map (fun x => x.add (i + 1))) = none → c5 - (i + 1) = 0 := fun h => by
          obtain ⟨b, o, e, _⟩ := hS.out.bytes.at hr
          subst e
          split at h <;> simp at h
        generalize (if c5 = i + 1 then p5 else p5.map (fun x => x.add (i + 1))) = pa at *
        generalize rest.take i = nm at *
        generalize rest.drop (i + 1) = aft at *
        generalize c5 - (i + 1) = ca at *
        rw [← hal] at hSa ⊢
        have hfl : aft.length ≤ f - 1 := by omega
        have hal2 : aft.length < rest.length := by omega
        have hi9 : i ≤ 100000 := by omega
        have hfl2 : aft.length ≤ 100000 := by omega
        have HSA := Lib.hid hSa
        have HK1 := Lib.hid hK1
        have hbw1 := hb1.trans (hbc1.mono hb1.size)
        have hb2 := hbw1.alloc hbw1.size (.cells #[.int .u8 0, .int .u8 1] 5)
        have C2 := Lib.hid (cut_calls pa (some ⟨w1.heap.size, 0, none⟩) aft.length ca 2 2 aft [0, 1] (w1.alloc (.cells #[.int .u8 0, .int .u8 1] 5)) (HSA.out.below hb2) (sl_two (heap_alloc_new _ _)) (by omega) (by omega) hpa (HM.out.below hb2))
        clear hSa hK1 hal hi hix hroom hi1 hS hS' C1 hK
        go_wp2_with fail
        refine C2.out.mono ?_
        rintro e w2 ⟨rfl, hbc2⟩
        have hbw2 := hb2.trans (hbc2.mono hb2.size)
        have hr1 : Below wr.heap.size wr w1 := ((Below.refl _ _).alloc (Nat.le_refl _) _).trans (hbc1.mono (by simp))
        have hr2 : Below wr.heap.size wr w2 := (hr1.alloc hr1.size _).trans (hbc2.mono (by simpa using Nat.le_succ_of_le hr1.size))
        have hR2 := Lib.hid (Kd.R_below hR.out hr2)
        by_cases hj : 0 ≤ Lib.index aft [0, 1]
        · obtain ⟨j, hjx⟩ : ∃ j : Nat, Lib.index aft [0, 1] = j := ⟨(Lib.index aft [0, 1]).toNat, (Int.toNat_of_nonneg hj).symm⟩
          have hroom := Lib.index_room aft [0, 1] hj
          rw [Lib.cutV, if_pos hj]
          rw [hjx] at hroom ⊢
          rw [Int.toNat_natCast]
          have hj2 : j + 2 ≤ aft.length := by simp at hroom; omega
          have hSv := Lib.hid (HSA.out.take j (by omega))
          have hSr := HSA.out.from (j + 2) hj2
          rw [show Lib.fromV pa aft.length ca (j + 2) = .slice (if ca = j + 2 then pa else pa.map (fun x => x.add (j + 2))) (aft.length - (j + 2)) (ca - (j + 2)) from rfl]
          have hK2 := HK1.out
          rw [hjx, Int.toNat_natCast] at hK2
          have hrl : (aft.drop (j + 2)).length = aft.length - (j + 2) := List.length_drop
          have hvl : (aft.take j).length = j := by rw [List.length_take]; omega
          generalize (if ca = j + 2 then pa else pa.map (fun x => x.add (j + 2))) = pr at *
          generalize ca - (j + 2) = cr at *
          generalize aft.take j = vl at *
          generalize aft.drop (j + 2) = rst at *
          rw [← hrl] at hSr ⊢
          subst hvl
          have hrf : rst.length ≤ f - 1 := by omega
          have hvl2 : vl.length ≤ 100000 := by omega
          have hrs2 : rst.length < rest.length := by omega
          have HSR := Lib.hid hSr
          obtain ⟨A4, c4, rfl⟩ := Kd.R_slice hR2.out
          clear hSr hrl hjx hroom hj hj2 HK1 HSA hR hbc1 C2
          by_cases h16 : acc.length = 16
          · have HE := Lib.hid (show ofKeyL bs = ([], 134) by
              have : ofK bs.length bs [] = none := by rw [hK2, if_pos (Or.inr h16)]
              rw [ofKeyL, this])
            go_wp2_with fail
            go_ret2
            rw [HE.out]
            exact ⟨.slice none 0 0, rfl, Kd.R_nil _ _ _ _ _, hbw2⟩
          · rw [if_neg (by omega)] at hK2
            have HK2 := Lib.hid hK2
            have CN := Lib.hid (fun (W : World) (hW : Below w.heap.size w W) => conv_sl (hSn.out.below hW) (by omega))
            have CV := Lib.hid (fun (W : World) (hW : Below w.heap.size w W) => conv_sl (hSv.out.below hW) (by omega))
            have RP := Lib.hid (show ∀ W : World, Below w.heap.size w W → Calls Tryz.prog 91 #[.string ⟨vl.toArray⟩, .string ⟨#[0, 255]⟩, .string ⟨#[0]⟩] W fun e w' => e = .returned (.string ⟨(unesc vl).toArray⟩) ∧ Below W.heap.size W w' from fun W hW => repl2_calls ⟨vl.toArray⟩ W (HM.out.below hW) (by simpa [ByteArray.size] using hvl2))
            go_upto_region 8 with (fail)
            go_region_held3 (fun w' => (convert 93 9 (.slice p5 i c5)).run Tryz.prog w' = .ok (.string ⟨nm.toArray⟩) w' ∧ (convert 93 9 (.slice pa vl.length ca)).run Tryz.prog w' = .ok (.string ⟨vl.toArray⟩) w')
              (first | exact ⟨CN.out _ hbw2, CV.out _ hbw2⟩ | exact ⟨CN.out _ (below_drew1 hbw2), CV.out _ (below_drew1 hbw2)⟩ | exact ⟨CN.out _ hX1, CV.out _ hX1⟩ | exact ⟨CN.out _ (hX1.alloc hX1.size _), CV.out _ (hX1.alloc hX1.size _)⟩ | exact ⟨CN.out _ hb5, CV.out _ hb5⟩)
              (first
                | (go_at_call 91; (with_reducible refine (RP.out _ (below_drew1 hbw2)).mono ?_); rintro e w' ⟨rfl, hb3⟩; have hX1 : Below w.heap.size w w' := Below.trans (below_drew1 hbw2) (Below.mono hb3 (below_drew1 hbw2).size); have hX2 := Kd.R_below (Kd.R_drew hR2.out) hb3)
                | (refine Kd.R_append_step k130 (w0 := w) w.heap.size (by rfl) (.tmp 43) (.tmp 50) 59 130 (.agg #[(.string ⟨#[]⟩), (.string ⟨#[]⟩)]) 32 rfl Tryz.underlying59 info130 rfl (by decide) (by omega) (.slice A4 acc.length c4) acc (⟨⟨nm.toArray⟩, ⟨(unesc vl).toArray⟩⟩ : S130) [.string ⟨nm.toArray⟩, .string ⟨(unesc vl).toArray⟩] (fun _ => True) (fun _ => False) rfl rfl ?aP (fun _ hk => hk.elim) (fun _ _ => trivial) hX2 hX1 hX1.size ?aL ?_; (case aP => exact k130_mkM _ _ _ _); (case aL => omega); rintro v5 w5 ho hb5 hg5 hat5))
            go_wp2
            go_roundw
            case rel => exact ⟨f - 1, rst, acc ++ [⟨⟨nm.toArray⟩, ⟨(unesc vl).toArray⟩⟩], pr, cr, rfl, HSR, hrf, by omega, HK2, by rw [List.length_append, List.length_singleton]; omega, Lib.hid ho, hb5⟩
            case measure => exact hrs2
        · rw [Lib.cutV, if_neg hj]
          have HE := Lib.hid (show ofKeyL bs = ([], 134) by
            have : ofK bs.length bs [] = none := by rw [HK1.out, if_pos (Or.inl (by omega))]
            rw [ofKeyL, this])
          obtain ⟨A4, c4, rfl⟩ := Kd.R_slice hR2.out
          go_wp2_with fail
          go_ret2
          rw [HE.out]
          exact ⟨.slice none 0 0, rfl, Kd.R_nil _ _ _ _ _, hbw2⟩
      · rw [Lib.cutV, if_neg hi]
        have hbw1 := hb1.trans (hbc1.mono hb1.size)
        have hb2 := hbw1.alloc hbw1.size (.cells #[.int .u8 0, .int .u8 1] 5)
        have C2 := Lib.hid (cut_calls none (some ⟨w1.heap.size, 0, none⟩) 0 0 2 2 [] [0, 1] (w1.alloc (.cells #[.int .u8 0, .int .u8 1] 5)) ⟨Lib.BytesIn.nil _ _ _, rfl, Nat.le_refl _⟩ (sl_two (heap_alloc_new _ _)) (by omega) (by omega) (fun _ => rfl) (HM.out.below hb2))
        go_wp2_with fail
        refine C2.out.mono ?_
        rintro e w2 ⟨rfl, hbc2⟩
        rw [show Lib.cutV none 0 0 2 (Lib.index [] [0, 1]) = .tuple #[.slice none 0 0, .slice none 0 0, .bool false] from rfl]
        have HE := Lib.hid (show ofKeyL bs = ([], 134) by
          have : ofK bs.length bs [] = none := by
            obtain ⟨f', rfl⟩ : ∃ f', f = f' + 1 := ⟨f - 1, by omega⟩
            rw [hK.out, ofK, if_neg (by rintro rfl; simp at hr), if_pos (by omega)]
          rw [ofKeyL, this])
        go_wp2_with fail
        go_ret2
        rw [HE.out]
        exact ⟨.slice none 0 0, rfl, Kd.R_nil _ _ _ _ _, hb2.trans (hbc2.mono hb2.size)⟩
    · have h0 : rest = [] := List.eq_nil_of_length_eq_zero (by omega)
      subst h0
      have hK0 : ofK bs.length bs [] = some acc := by rw [hK.out]; cases f <;> simp [ofK]
      obtain ⟨A4, c4, rfl⟩ := Kd.R_slice hR.out
      have kc := key_calls A4 c4 acc wr (Kd.R_reads' hR.out).2.2 (by omega) (HM.out.below hbw)
      have CB := Lib.hid (fun (W : World) (hW : Below w.heap.size w W) => conv_sl (HH.out.below hW) (by omega))
      cases hset : isSetL acc
      · have HE := Lib.hid (show ofKeyL bs = ([], 134) by rw [ofKeyL, hK0]; simp [hset])
        rw [show keyL acc = ([], 134) by rw [keyL, hset]; rfl] at kc
        have KC := Lib.hid kc
        clear kc hset hK0 hK
        go_wp2_with fail
        refine KC.out.mono ?_
        rintro e w1 ⟨v, rfl, hRk, hbk⟩
        have hbw1 := hbw.trans (hbk.mono hbw.size)
        go_wp2_with fail
        go_ret2
        rw [HE.out]
        exact ⟨.slice none 0 0, rfl, Kd.R_nil _ _ _ _ _, hbw1⟩
      · have HE := Lib.hid (show ofKeyL bs = if keyB acc = bs then (acc, 0) else ([], 134) by rw [ofKeyL, hK0]; simp [hset])
        rw [show keyL acc = (keyB acc, 0) by rw [keyL, hset]; rfl] at kc
        have KC := Lib.hid kc
        clear kc hset hK0 hK
        go_wp2_with fail
        refine KC.out.mono ?_
        rintro e w1 ⟨v, rfl, hRk, hbk⟩
        have hbw1 := hbw.trans (hbk.mono hbw.size)
        have hcv : (convert 93 9 v).run Tryz.prog w1 = .ok (.string ⟨(keyB acc).toArray⟩) w1 := by
          rw [← str_ints]
          exact own_string Tryz.underlying93 Tryz.underlying5 Tryz.underlying9 hRk
        have be := bequal_calls v (.slice p bs.length c) ⟨(keyB acc).toArray⟩ ⟨bs.toArray⟩ w1 hcv (CB.out _ hbw1)
        have hR1 := Lib.hid (Kd.R_below hR.out hbk)
        rw [ba_beq] at be
        by_cases hq : keyB acc = bs
        · rw [decide_eq_true (show (⟨(keyB acc).toArray⟩ : ByteArray).data.toList = (⟨bs.toArray⟩ : ByteArray).data.toList from hq)] at be
          have HE2 := Lib.hid (HE.out.trans (if_pos hq))
          have BE := Lib.hid be
          clear be hcv hq HE
          go_wp2_with fail
          refine BE.out.mono ?_
          rintro e w2 ⟨rfl, hw2⟩
          subst hw2
          go_wp2_with fail
          go_ret2
          rw [HE2.out]
          exact ⟨_, rfl, hR1.out, hbw1⟩
        · rw [decide_eq_false (show ¬ (⟨(keyB acc).toArray⟩ : ByteArray).data.toList = (⟨bs.toArray⟩ : ByteArray).data.toList from hq)] at be
          have HE2 := Lib.hid (HE.out.trans (if_neg hq))
          have BE := Lib.hid be
          clear be hcv hq HE
          go_wp2_with fail
          refine BE.out.mono ?_
          rintro e w2 ⟨rfl, hw2⟩
          subst hw2
          go_wp2_with fail
          go_ret2
          rw [HE2.out]
          exact ⟨.slice none 0 0, rfl, Kd.R_nil _ _ _ _ _, hbw1⟩
end
section
open Go.RowKit Go.Proofs.YtkanfffbdegfoaaGreatDoorW.PrintWords Go.Proofs.YtkanfffbdegfoaaGreatDoorW.PrintLast Go.Proofs.YtkanfffbdegfoaaGreatDoorW.PrintMore

theorem app_list' (a b : ByteArray) : (a ++ b).data.toList = a.data.toList ++ b.data.toList := by
  rw [ByteArray.data_append, Array.toList_append]
def itm (x : S130) : Item := ⟨x, 0, 0, 0, 0⟩
theorem itemT_itm (x : S130) : itemT x 0 0 = (partL x).data.toList := by
  rw [partL, app_list', app_list', itemT]
  simp [sp]
theorem bodyT_itm : ∀ l : List S130, bodyT (l.map itm) = Lib.join ((l.map partL).map (·.data.toList)) [44]
  | [] => rfl
  | [x] => by
    rw [List.map_singleton, List.map_singleton, List.map_singleton, Lib.join_one, bodyT]
    show itemT x 0 0 ++ sp 0 = _
    rw [itemT_itm]
    simp [sp]
  | x :: y :: l => by
    have ih := bodyT_itm (y :: l)
    rw [List.map_cons, List.map_cons] at ih ⊢
    rw [List.map_cons, bodyT, ih]
    show itemT x 0 0 ++ (sp 0 ++ 44 :: (sp 0 ++ _)) = _
    rw [itemT_itm, List.map_cons, List.map_cons, Lib.join_cons, Lib.join_cons]
    simp [sp, Lib.joinTail]
theorem text_set {l : List S130} (h : isSetL l = true) : textL l = ((textL l).1, 0) := by
  rw [textL, h]
  rfl
theorem text_data {l : List S130} (h : isSetL l = true) : (textL l).1.data.toList = blankT 0 0 0 (l.map itm) := by
  rw [textL, h, blankT, bodyT_itm]
  simp only [if_true]
  rw [app_list', app_list']
  simp [sp]
theorem text_size {l : List S130} (h : isSetL l = true) : (textL l).1.size ≤ 100010 := by
  have h1 := textJoin_le h
  rw [textL, h]
  simp only [if_true]
  rw [ByteArray.size_append, ByteArray.size_append]
  have h2 : (⟨#[123]⟩ : ByteArray).size = 1 := rfl
  have h3 : (⟨#[125]⟩ : ByteArray).size = 1 := rfl
  have h4 : (⟨(Lib.join ((l.map partL).map (·.data.toList)) [44]).toArray⟩ : ByteArray).size = (Lib.join ((l.map partL).map (·.data.toList)) [44]).length := by simp [ByteArray.size]
  omega
/-- Parse of a set's text is that set. -/
theorem parse_text {l : List S130} (h : isSetL l = true) : parseF (textL l).1 = (l, ⟨0, 0⟩) := by
  have hm : (l.map itm).map (·.x) = l := by
    rw [List.map_map]
    exact List.map_id _
  have hx : ∀ p ∈ l.map itm, nameB p.x.f0 = true := by
    intro p hp
    obtain ⟨x, hx, rfl⟩ := List.mem_map.1 hp
    exact ((isSet_fit h).1.1 x hx).1
  rw [parse_good hx (text_data h), hm, set_of_set h (List.Perm.refl l)]
/-- Texts are the same just if the sets are. -/
theorem text_same {l m : List S130} (hl : isSetL l = true) (hm : isSetL m = true) : ((textL l).1.toList == (textL m).1.toList) = eqLB l m := by
  have key : (textL l).1.data.toList = (textL m).1.data.toList ↔ l = m := by
    constructor
    · intro h
      have e : (textL l).1 = (textL m).1 := by
        revert h
        generalize (textL l).1 = a
        generalize (textL m).1 = b
        intro h
        obtain ⟨⟨a⟩⟩ := a
        obtain ⟨⟨b⟩⟩ := b
        simp only at h
        rw [h]
      have h1 := parse_text hl
      rw [e, parse_text hm] at h1
      exact (Prod.mk.inj h1).1.symm
    · rintro rfl; rfl
  rw [nm_beq']
  cases he : eqLB l m
  · exact decide_eq_false (fun h => by rw [(eqLB_iff l m).2 (key.1 h)] at he; cases he)
  · exact decide_eq_true (key.2 ((eqLB_iff l m).1 he))
theorem set_key {l : List S130} (h : isSetL l = true) : keyL l = (keyB l, 0) := by
  rw [keyL, h]
  rfl
theorem key_size {l : List S130} (h : isSetL l = true) : (keyB l).length ≤ 11200 := by
  have h1 := keyB_le l (isSetL_all h).2.1
  have h2 := (isSetL_all h).1
  have h3 : l.length * 700 ≤ 16 * 700 := Nat.mul_le_mul_right _ h2
  omega
/-- Keys are the same just if the sets are. -/
theorem key_same {l m : List S130} (hl : isSetL l = true) (hm : isSetL m = true) : keyB l = keyB m ↔ l = m := by
  constructor
  · intro h
    have h1 := ofKey_key hl
    rw [h, ofKey_key hm] at h1
    exact (Prod.mk.inj h1).1.symm
  · rintro rfl; rfl
/-- Compare is that of keys. -/
theorem key_order {l m : List S130} (hl : isSetL l = true) (hm : isSetL m = true) : cmpL l m = Lib.compareBytes (keyB l) (keyB m) := (key_cmp l m (set_nz hl) (set_nz hm)).symm
/-- A set whose key begins a set's key, and is shorter, begins that set, and is shorter. -/
theorem key_begins {l m : List S130} {n : Nat} (hl : isSetL l = true) (hm : isSetL m = true) (hn : n < (keyB l).length) (h : keyB m = (keyB l).take n) : m.length < l.length ∧ l.take m.length = m := by
  obtain ⟨r, hr⟩ := key_prefix m l ((keyB l).drop n) (set_nz hm) (set_nz hl) (by rw [h, List.take_append_drop])
  have hlen : (keyB m).length = n := by rw [h, List.length_take]; omega
  subst hr
  refine ⟨?_, by simp⟩
  cases r with
  | nil =>
    rw [List.append_nil] at hn
    omega
  | cons x r => simp
end
end Go.Proofs.YtkanfffbdegfoaaGreatDoor.PD
