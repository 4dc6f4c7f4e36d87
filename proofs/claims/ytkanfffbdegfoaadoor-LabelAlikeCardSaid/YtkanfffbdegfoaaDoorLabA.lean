/- fathomlaw13.LabelAlike: it returns true; what was there is as it was. No condition but the environment's (the tables). -/
import Derived.Test.YtkanfffbdegfoaaDoorKU
import Derived.Test.YtkanfffbdegfoaaDoorLabT
import Derived.Test.YtkanfffbdegfoaaDoorKP
namespace Go.Proofs.YtkanfffbdegfoaaDoor.PD
set_option linter.unusedVariables false
set_option linter.unusedSimpArgs false
open Go.RowKit Go.Proofs.YtkanfffbdegfoaaDoorW.PrintWords Go.Proofs.YtkanfffbdegfoaaDoorW.PrintLast Go.Proofs.YtkanfffbdegfoaaDoorW.PrintMore

/-! ### what right and slim give -/
theorem few_any (l : List S27) (k : Nat) (hk : 122 ≤ k) : fathomlaw13_few.f k l = some (fewL l) := by
  rw [fathomlaw13_few.f]
  have := few_loop l 60 0 [] k (by omega) (Nat.le_refl _) (by omega) (by omega)
  rw [show ((0 : Nat) : Int) = 0 from rfl] at this
  rw [this]
  simp [fewL]
theorem num_f (e : Int) : fathomlaw13_num.f e = some e := rfl
theorem set_fit_f (l : List S27) : label_Set.f (fewL l) = some (setL (fewL l)) := by
  rw [label_Set.f, if_pos (by have := fewL_len l; omega)]
/-- A row of sets, short. -/
def SetsOk (r : List (List S27)) : Prop := r.length ≤ 30 ∧ ∀ x ∈ r, x.length ≤ 16
set_option maxHeartbeats 2000000 in
theorem right_loop (L : List (List S27)) (d : Nat) : ∀ (i : Nat) (acc : List (List S27)) (k : Nat), 30 - i ≤ d → acc.length ≤ i → i ≤ 30 → (∀ x ∈ acc, x.length ≤ 16) → 2 * d + 130 ≤ k → ∃ r, fathomlaw13_right.l0 k L acc (i : Int) = some r ∧ SetsOk r := by
  have e0 : ∀ (i : Nat) (acc : List (List S27)) (k : Nat), acc.length ≤ i → i ≤ 30 → (∀ x ∈ acc, x.length ≤ 16) → (i < L.length → i = 30) → ∃ r, fathomlaw13_right.l0 (k + 2) L acc (i : Int) = some r ∧ SetsOk r := by
    intro i acc k ha hi hac h
    rw [fathomlaw13_right.l0, fathomlaw13_right.j1, fathomlaw13_right.j1]
    by_cases h1 : i < L.length
    · rw [if_pos (by omega), if_neg (by have := h h1; simp; omega)]
      exact ⟨_, rfl, by omega, hac⟩
    · rw [if_neg (by omega), if_neg (by decide)]
      exact ⟨_, rfl, by omega, hac⟩
  induction d with
  | zero =>
    intro i acc k hd ha hi hac hk
    obtain ⟨k, rfl⟩ : ∃ m, k = m + 2 := ⟨k - 2, by omega⟩
    exact e0 i acc k ha hi hac (fun _ => by omega)
  | succ d ih =>
    intro i acc k hd ha hi hac hk
    obtain ⟨k, rfl⟩ : ∃ m, k = m + 2 := ⟨k - 2, by omega⟩
    by_cases h12 : i < L.length ∧ i < 30
    · obtain ⟨h1, h2⟩ := h12
      rw [fathomlaw13_right.l0, if_pos (by omega), fathomlaw13_right.j1]
      rw [if_pos (by simp; omega), if_pos (by omega), if_pos (by omega), few_any _ k (by omega)]
      simp only [Option.bind_some]
      rw [set_fit_f]
      simp only [Option.bind_some, num_f]
      have e : wrap64 ((i : Int) + 1) = ((i + 1 : Nat) : Int) := by unfold wrap64; omega
      rw [e]
      by_cases h3 : (setL (fewL (rd_L2 L (i : Int)))).2 = 0
      · rw [if_pos h3, if_pos (by omega)]
        refine ih (i + 1) _ k (by omega) (by simp; omega) (by omega) ?_ (by omega)
        intro x hx
        rcases List.mem_append.1 hx with hx | hx
        · exact hac x hx
        · rw [List.mem_singleton.1 hx]
          exact set_len _
      · rw [if_neg h3]
        exact ih (i + 1) _ k (by omega) (by omega) (by omega) hac (by omega)
    · exact e0 i acc k ha hi hac (fun h => by omega)
theorem right_f (L : List (List S27)) : ∃ r, fathomlaw13_right.f 200 L = some r ∧ SetsOk r :=
  right_loop L 30 0 [] 200 (by omega) (Nat.le_refl _) (by omega) (fun x hx => by cases hx) (by omega)
/-- A row of matchers, short. -/
def AsksOk (r : List S64) : Prop := r.length ≤ 60 ∧ ∀ x ∈ r, x.f3.length ≤ 100
set_option maxHeartbeats 2000000 in
theorem slim_in (L acc : List S64) (i : Nat) (hi : i < L.length) (ha : acc.length ≤ 60) (K : Nat)
    (hn : ∀ (x : S64) (k : Nat), x.f3.length ≤ 100 → K ≤ k → ∃ r, fathomlaw13_slim.l0 k L (acc ++ [x]) (wrap64 ((i : Int) + 1)) = some r ∧ AsksOk r) (d : Nat) :
    ∀ (n : Nat) (a : Int) (b c : ByteArray) (ws : List ByteArray) (k : Nat), 100 - n ≤ d → n ≤ 100 → ws.length ≤ n → K + d + 1 ≤ k → ∃ r, fathomlaw13_slim.l1 k L acc (i : Int) (n : Int) a b c ws = some r ∧ AsksOk r := by
  have e0 : ∀ (n : Nat) (a : Int) (b c : ByteArray) (ws : List ByteArray) (k : Nat), n ≤ 100 → ws.length ≤ n → K ≤ k → ((n : Int) < (((rd_T64 L (i : Int)).f3).length : Int) → n = 100) → ∃ r, fathomlaw13_slim.l1 (k + 1) L acc (i : Int) (n : Int) a b c ws = some r ∧ AsksOk r := by
    intro n a b c ws k hn1 hw hk h
    rw [fathomlaw13_slim.l1, if_pos (by omega), if_pos (by omega)]
    by_cases h1 : (n : Int) < (((rd_T64 L (i : Int)).f3).length : Int)
    · have := h h1
      rw [if_pos h1, if_neg (by omega), if_pos (by omega)]
      exact hn _ k (by simp only; omega) hk
    · rw [if_neg h1, if_pos (by omega)]
      exact hn _ k (by simp only; omega) hk
  induction d with
  | zero =>
    intro n a b c ws k hd hn1 hw hk
    obtain ⟨k, rfl⟩ : ∃ m, k = m + 1 := ⟨k - 1, by omega⟩
    exact e0 n a b c ws k hn1 hw (by omega) (fun _ => by omega)
  | succ d ih =>
    intro n a b c ws k hd hn1 hw hk
    obtain ⟨k, rfl⟩ : ∃ m, k = m + 1 := ⟨k - 1, by omega⟩
    by_cases h12 : (n : Int) < (((rd_T64 L (i : Int)).f3).length : Int) ∧ n < 100
    · obtain ⟨h1, h2⟩ := h12
      rw [fathomlaw13_slim.l1, if_pos (by omega), if_pos (by omega), if_pos h1, if_pos (by omega), if_pos (by omega), short_f]
      simp only [Option.bind_some]
      rw [if_pos (by omega)]
      have e : wrap64 ((n : Int) + 1) = ((n + 1 : Nat) : Int) := by unfold wrap64; omega
      rw [e]
      clear e h1 hn e0
      exact ih (n + 1) a b c _ k (by omega) (by omega) (by rw [List.length_append, List.length_singleton]; omega) (by omega)
    · exact e0 n a b c ws k hn1 hw (by omega) (fun h => by omega)
set_option maxHeartbeats 2000000 in
theorem slim_loop (L : List S64) (d : Nat) : ∀ (i : Nat) (acc : List S64) (k : Nat), 60 - i ≤ d → acc.length ≤ i → i ≤ 60 → (∀ x ∈ acc, x.f3.length ≤ 100) → 110 * d + 10 ≤ k → ∃ r, fathomlaw13_slim.l0 k L acc (i : Int) = some r ∧ AsksOk r := by
  have e0 : ∀ (i : Nat) (acc : List S64) (k : Nat), acc.length ≤ i → i ≤ 60 → (∀ x ∈ acc, x.f3.length ≤ 100) → (i < L.length → i = 60) → ∃ r, fathomlaw13_slim.l0 (k + 2) L acc (i : Int) = some r ∧ AsksOk r := by
    intro i acc k ha hi hac h
    rw [fathomlaw13_slim.l0, fathomlaw13_slim.j1, fathomlaw13_slim.j1]
    by_cases h1 : i < L.length
    · rw [if_pos (by omega), if_neg (by have := h h1; simp; omega)]
      exact ⟨_, rfl, by omega, hac⟩
    · rw [if_neg (by omega), if_neg (by decide)]
      exact ⟨_, rfl, by omega, hac⟩
  induction d with
  | zero =>
    intro i acc k hd ha hi hac hk
    obtain ⟨k, rfl⟩ : ∃ m, k = m + 2 := ⟨k - 2, by omega⟩
    exact e0 i acc k ha hi hac (fun _ => by omega)
  | succ d ih =>
    intro i acc k hd ha hi hac hk
    obtain ⟨k, rfl⟩ : ∃ m, k = m + 2 := ⟨k - 2, by omega⟩
    by_cases h12 : i < L.length ∧ i < 60
    · obtain ⟨h1, h2⟩ := h12
      rw [fathomlaw13_slim.l0, if_pos (by omega), fathomlaw13_slim.j1]
      rw [if_pos (by simp; omega), if_pos (by omega), if_pos (by omega), short_f, short_f]
      simp only [Option.bind_some]
      refine slim_in L acc i h1 (by omega) (110 * d + 10) ?_ 100 0 _ _ _ [] k (by omega) (by omega) (Nat.le_refl _) (by omega)
      intro x k2 hx hk2
      have e : wrap64 ((i : Int) + 1) = ((i + 1 : Nat) : Int) := by unfold wrap64; omega
      rw [e]
      refine ih (i + 1) _ k2 (by omega) (by simp; omega) (by omega) ?_ hk2
      intro y hy
      rcases List.mem_append.1 hy with hy | hy
      · exact hac y hy
      · rw [List.mem_singleton.1 hy]
        exact hx
    · exact e0 i acc k ha hi hac (fun h => by omega)
theorem slim_f (L : List S64) : ∃ r, fathomlaw13_slim.f 7000 L = some r ∧ AsksOk r :=
  slim_loop L 60 0 [] 7000 (by omega) (Nat.le_refl _) (by omega) (fun x hx => by cases hx) (by omega)

/-! ### the law itself -/
def eqM (m : S64) : S64 := ⟨1, m.f1, m.f2, []⟩
def unM (m : S64) : S64 := ⟨2, m.f1, m.f2, []⟩
def allM (m : S64) : S64 := ⟨3, m.f1, ⟨#[]⟩, []⟩
def anyM (m : S64) : S64 := ⟨4, m.f1, ⟨#[]⟩, m.f3⟩
theorem bad_eq (m : S64) : badM (eqM m) = (!nameB m.f1 || !valB m.f2) := by simp [badM, eqM]
theorem bad_un (m : S64) : badM (unM m) = (!nameB m.f1 || !valB m.f2) := by simp [badM, unM]
theorem bad_all (m : S64) : badM (allM m) = !nameB m.f1 := by
  have : valB ⟨#[]⟩ = true := by kernel_rfl
  simp [badM, allM, this]
theorem check0 (m : S64) : checkV m = 0 ↔ badM m = false ∧ 1 ≤ m.f0 ∧ m.f0 ≤ 4 := by
  unfold checkV
  split
  · rename_i h
    exact ⟨fun _ => h, fun _ => rfl⟩
  · rename_i h
    exact ⟨fun h2 => absurd h2 (by decide), fun h2 => absurd h2 h⟩
theorem un_check (m : S64) : checkV (unM m) = 0 ↔ checkV (eqM m) = 0 := by
  rw [check0, check0, bad_eq, bad_un]
  simp [eqM, unM]
theorem match_un (m : S64) (h : checkV m ≠ 0) (l : List S27) : matchV m l = false := by
  unfold matchV
  rw [beq_false_of_ne h]
  rfl
theorem match_of (m : S64) (h : checkV m = 0) (l : List S27) : matchV m l = takesV m (getL l m.f1) := by
  unfold matchV
  rw [h]
  rfl
theorem match_eq (m : S64) (h : checkV (eqM m) = 0) (l : List S27) : matchV (eqM m) l = ((getL l m.f1).toList == m.f2.toList) := by
  rw [match_of _ h]
  rfl
theorem match_unl (m : S64) (h : checkV (eqM m) = 0) (l : List S27) : matchV (unM m) l = !((getL l m.f1).toList == m.f2.toList) := by
  rw [match_of _ ((un_check m).2 h)]
  rfl
theorem match_all (m : S64) (h : checkV (eqM m) = 0) (l : List S27) : matchV (allM m) l = true := by
  have hb : checkV (allM m) = 0 := by
    rw [check0, bad_eq] at h
    rw [check0, bad_all]
    simp only [Bool.or_eq_false_iff] at h
    exact ⟨h.1.1, by simp [allM]⟩
  rw [match_of _ hb]
  simp [takesV, allM, Lib.hasPrefix]
theorem match_any (m : S64) (h : checkV (anyM m) = 0) (l : List S27) : matchV (anyM m) l = m.f3.any fun x => (getL l m.f1).toList == x.toList := by
  rw [match_of _ h]
  rfl

/-! ### how the argument is read -/
section
open Go.ChangeShapes Go.WideShapes Go.ChangeAt Go.Deep
theorem len4 {l : List Value} (h : l.length = 4) : ∃ a b c d, l = [a, b, c, d] := by
  rcases l with _ | ⟨a, _ | ⟨b, _ | ⟨c, _ | ⟨d, _ | ⟨e, l⟩⟩⟩⟩⟩
  · simp at h
  · simp at h
  · simp at h
  · simp at h
  · exact ⟨a, b, c, d, rfl⟩
  · simp at h
theorem opens_struct4 {α β γ δ : Type} {d0 : Kd α} {d1 : Kd β} {d2 : Kd γ} {d3 : Kd δ} {t : TypeId} {f0 f1 f2 f3 : Field} (hs : Tryd.prog.underlying t = some (.struct #[f0, f1, f2, f3])) (h0 : f0.offset = 0) (h1 : f1.offset = 1) (h2 : f2.offset = 2) (h3 : f3.offset = 3) (s0 : Tryd.prog.cellsOf f0.type = 1) (s1 : Tryd.prog.cellsOf f1.type = 1) (s2 : Tryd.prog.cellsOf f2.type = 1) (s3 : Tryd.prog.cellsOf f3.type = 1) (hc : Tryd.prog.cellsOf t = 4)
    (o0 : Opens d0 f0.type) (o1 : Opens d1 f1.type) (o2 : Opens d2 f2.type) (o3 : Opens d3 f3.type) : Opens (Kd.pair d0 (Kd.pair d1 (Kd.pair d2 d3))) t := by
  intro H enc w base spare held fuel cs x h
  obtain ⟨xs, n, _, _, hlen, hxl, hf⟩ := DataW.trod_struct hs h
  have g0 := hf 0 f0 rfl
  have g1 := hf 1 f1 rfl
  have g2 := hf 2 f2 rfl
  have g3 := hf 3 f3 rfl
  rw [h0, s0, List.drop_zero] at g0
  rw [h1, s1] at g1
  rw [h2, s2] at g2
  rw [h3, s3] at g3
  have hl0 : 0 < xs.length := by rw [hxl]; simp
  have hl1 : 1 < xs.length := by rw [hxl]; simp
  have hl2 : 2 < xs.length := by rw [hxl]; simp
  have hl3 : 3 < xs.length := by rw [hxl]; simp
  rw [List.getElem?_eq_getElem hl0] at g0
  rw [List.getElem?_eq_getElem hl1] at g1
  rw [List.getElem?_eq_getElem hl2] at g2
  rw [List.getElem?_eq_getElem hl3] at g3
  obtain ⟨a, ha⟩ := o0 enc w base spare held n _ _ g0
  obtain ⟨b, hb⟩ := o1 enc w base spare held n _ _ g1
  obtain ⟨c, hc'⟩ := o2 enc w base spare held n _ _ g2
  obtain ⟨e, he⟩ := o3 enc w base spare held n _ _ g3
  have h4 : cs.length = 4 := by omega
  obtain ⟨x0, x1, x2, x3, rfl⟩ := len4 h4
  exact ⟨(a, b, c, e), [x0], [x1, x2, x3], rfl, ha, [x1], [x2, x3], rfl, hb, [x2], [x3], rfl, hc', he⟩
theorem opens64 : Opens k64 64 :=
  opens_iso (fun p => ⟨p.1, p.2.1, p.2.2.1, p.2.2.2⟩) (fun _ => rfl) (opens_struct4 Tryd.underlying64 rfl rfl rfl rfl (by kernel_rfl) (by kernel_rfl) (by kernel_rfl) (by kernel_rfl) (by kernel_rfl) (opens_int (by kernel_rfl)) (opens_string (by kernel_rfl)) (opens_string (by kernel_rfl)) opens37)
theorem opens57 : Opens (Kd.slice 64 k64) 57 := opens_slice Tryd.underlying57 (by kernel_rfl) opens64
theorem opens58 : Opens (Kd.slice 22 (Kd.slice 27 k27)) 58 := opens_slice Tryd.underlying58 (by kernel_rfl) opens22
end

/-! ### the walk -/

theorem check_e (m : S64) (W : World) : Calls Tryd.prog 25 #[.agg #[.int .i64 1, .string m.f1, .string m.f2, .slice none 0 0]] W fun e w' => e = .returned (.int .i64 (checkV (eqM m))) ∧ Below W.heap.size W w' :=
  check_calls (eqM m) none 0 W (Kd.C_nil _ _) (by simp [eqM])
theorem check_u (m : S64) (W : World) : Calls Tryd.prog 25 #[.agg #[.int .i64 2, .string m.f1, .string m.f2, .slice none 0 0]] W fun e w' => e = .returned (.int .i64 (checkV (unM m))) ∧ Below W.heap.size W w' :=
  check_calls (unM m) none 0 W (Kd.C_nil _ _) (by simp [unM])
theorem check_s (m : S64) (A : Option Addr) (c : Nat) (W : World) (h : Kd.C Kd.string W A m.f3.length m.f3) (hl : m.f3.length ≤ 100) : Calls Tryd.prog 25 #[.agg #[.int .i64 4, .string m.f1, .string ⟨#[]⟩, .slice A m.f3.length c]] W fun e w' => e = .returned (.int .i64 (checkV (anyM m))) ∧ Below W.heap.size W w' :=
  check_calls (anyM m) A c W h (by simp only [anyM]; omega)
theorem match_e (m : S64) (A1 : Option Addr) (c1 : Nat) (l : List S27) (W : World) (hr : Kd.C k27 W A1 l.length l) (hc1 : l.length ≤ c1) (hl : l.length ≤ 16) : Calls Tryd.prog 26 #[.agg #[.int .i64 1, .string m.f1, .string m.f2, .slice none 0 0], .slice A1 l.length c1] W fun e w' => e = .returned (.bool (matchV (eqM m) l)) ∧ Below W.heap.size W w' :=
  match_calls (eqM m) none 0 A1 c1 l W (Kd.C_nil _ _) (by simp [eqM]) hr hc1 (by omega)
theorem match_u (m : S64) (A1 : Option Addr) (c1 : Nat) (l : List S27) (W : World) (hr : Kd.C k27 W A1 l.length l) (hc1 : l.length ≤ c1) (hl : l.length ≤ 16) : Calls Tryd.prog 26 #[.agg #[.int .i64 2, .string m.f1, .string m.f2, .slice none 0 0], .slice A1 l.length c1] W fun e w' => e = .returned (.bool (matchV (unM m) l)) ∧ Below W.heap.size W w' :=
  match_calls (unM m) none 0 A1 c1 l W (Kd.C_nil _ _) (by simp [unM]) hr hc1 (by omega)
theorem match_a (m : S64) (A1 : Option Addr) (c1 : Nat) (l : List S27) (W : World) (hr : Kd.C k27 W A1 l.length l) (hc1 : l.length ≤ c1) (hl : l.length ≤ 16) : Calls Tryd.prog 26 #[.agg #[.int .i64 3, .string m.f1, .string ⟨#[]⟩, .slice none 0 0], .slice A1 l.length c1] W fun e w' => e = .returned (.bool (matchV (allM m) l)) ∧ Below W.heap.size W w' :=
  match_calls (allM m) none 0 A1 c1 l W (Kd.C_nil _ _) (by simp [allM]) hr hc1 (by omega)
theorem match_s (m : S64) (A : Option Addr) (c : Nat) (A1 : Option Addr) (c1 : Nat) (l : List S27) (W : World) (h : Kd.C Kd.string W A m.f3.length m.f3) (hm : m.f3.length ≤ 100) (hr : Kd.C k27 W A1 l.length l) (hc1 : l.length ≤ c1) (hl : l.length ≤ 16) : Calls Tryd.prog 26 #[.agg #[.int .i64 4, .string m.f1, .string ⟨#[]⟩, .slice A m.f3.length c], .slice A1 l.length c1] W fun e w' => e = .returned (.bool (matchV (anyM m) l)) ∧ Below W.heap.size W w' :=
  match_calls (anyM m) A c A1 c1 l W h (by simp only [anyM]; omega) hr hc1 (by omega)
theorem get_f (A1 : Option Addr) (c1 : Nat) (l : List S27) (nm : ByteArray) (W : World) (hr : Kd.C k27 W A1 l.length l) (hc1 : l.length ≤ c1) (hl : l.length ≤ 16) : Calls Tryd.prog 14 #[.slice A1 l.length c1, .string nm] W fun e w' => e = .returned (.string (getL l nm)) ∧ Below W.heap.size W w' :=
  label_Get.calls A1 c1 l nm (getL l nm) W hr hc1 (by rw [label_Get.f, if_pos (by omega)])
set_option maxHeartbeats 20000000 in
set_option maxRecDepth 100000 in
theorem labelAlike_walk (A : Option Addr) (c : Nat) (l0 : List S64) (A' : Option Addr) (c' : Nat) (l1 : List (List S27)) (w : World) (hC : Kd.C k64 w A l0.length l0) (hlc : l0.length ≤ c) (hC' : Kd.C (Kd.slice 27 k27) w A' l1.length l1) (hlc' : l1.length ≤ c') (hE : WE w) :
    Calls Tryd.prog 7 #[.agg #[.slice A l0.length c, .slice A' l1.length c']] w fun e w' => e = .returned (.bool true) ∧ Below w.heap.size w w' := by
  have hx0 := heap_alloc_new w (.cells #[.slice A l0.length c, .slice A' l1.length c'] 60)
  have hb0 := (Below.refl w.heap.size w).alloc (Nat.le_refl _) (.cells #[.slice A l0.length c, .slice A' l1.length c'] 60)
  obtain ⟨R, hRf, hR30, hR16⟩ := right_f l1
  obtain ⟨M, hMf, hM60, hM100⟩ := slim_f l0
  have RR := Lib.hid (fathomlaw13_right.calls 200 A' c' l1 R (w.alloc (.cells #[.slice A l0.length c, .slice A' l1.length c'] 60)) (Kd.C_below hC' hb0) hlc' hRf)
  have SL := Lib.hid (show ∀ W, Below w.heap.size w W → Calls Tryd.prog 24 #[.slice A l0.length c] W fun e w' => ∃ v0_ : Value, e = .returned (v0_) ∧ Kd.S k64 64 w' W.heap.size (fun _ => True) v0_ M ∧ Below W.heap.size W w' from fun W hb => fathomlaw13_slim.calls 7000 A c l0 M W (Kd.C_below hC hb) hlc hMf)
  have HX0 := Lib.hid hx0
  have HB0 := Lib.hid hb0
  have HE := Lib.hid hE
  have HR16 := Lib.hid hR16
  have HM100 := Lib.hid hM100
  clear hx0 hb0 hRf hMf hC hC' hE hR16 hM100
  go_enter Tryd.func7, Tryd.ntmps7
  go_wp2_with fail
  refine RR.out.mono ?_
  clear RR
  rintro e w1 ⟨v1, rfl, hS1, hb1⟩
  obtain ⟨A1, c1, rfl⟩ := Kd.S_slice hS1
  have HX1 := Lib.hid ((hb1.block w.heap.size (Array.getElem?_eq_some_iff.1 HX0.out).1).trans HX0.out)
  have HB1 := Lib.hid (HB0.out.trans (hb1.mono HB0.out.size))
  have HF1 := Lib.hid (Kd.S_F hS1)
  clear HX0 HB0 hb1 hS1
  have hs1 := HB1.out.size
  go_wp2_with (at_builtin; refine Kd.N_append_rows (Kd.slice 27 k27) (w0 := w) w.heap.size rfl (.tmp 13) (.tmp 16) 58 22 (.slice none 0 0) 24 rfl Tryd.underlying58 info22 rfl (by decide) (by omega) (.slice none 0 0) ([] : List (List (S27))) R _ _ _ (fun _ => True) (fun _ => True) rfl rfl (Kd.N_nil _ _ _ _ _) HF1.out (fun _ _ => ⟨trivial, by simp [Value.ownBlock]⟩) (fun _ _ => trivial) HB1.out hs1 (by simp only [List.length_nil]; omega) ?_; rintro v2 w2 hN2 hb2 hg2 hat2; rw [List.nil_append] at hN2; obtain ⟨A2, c2, eA2⟩ := Kd.N_slice hN2; subst eA2; have HX2 := Lib.hid (blk_grown HX1.out hg2 (by simp [Value.ownBlock])); have hc20 := cell_at HX2.out 0; have HC2 := Lib.hid (Kd.N_reads' hN2).2.2; have hl2 := (Kd.N_reads' hN2).2.1; have HB2 := Lib.hid hb2; clear hN2 hb2 hg2 hat2 HX1 HB1 HF1 hs1)
  have hs2 := HB2.out.size
  refine (SL.out _ HB2.out).mono ?_
  clear SL
  rintro e w3 ⟨v3, rfl, hS3, hb3⟩
  obtain ⟨A3, c3, rfl⟩ := Kd.S_slice hS3
  have HB3 := Lib.hid (HB2.out.trans (hb3.mono HB2.out.size))
  have HCR := Lib.hid (Kd.C_below HC2.out hb3)
  have HCM := Lib.hid (Kd.N_reads' (Kd.S_N hS3)).2.2
  have hl3 := (Kd.N_reads' (Kd.S_N hS3)).2.1
  clear HX2 hc20 HC2 HB2 hs2 hb3 hS3
  go_wp2_with fail
  have hs3 := HB3.out.size
  go_loopw [5] (fun v wr => ∃ i : Nat, v = .int .i64 i ∧ i ≤ M.length ∧ Below w.heap.size w wr ∧ Below w3.heap.size w3 wr) (fun v _ => M.length - (intOf v).toNat)
  case atStart => exact ⟨0, rfl, by omega, HB3.out, Below.refl _ _⟩
  case round =>
    obtain ⟨i, rfl, hi, hbw, hb3⟩ := hrel
    by_cases hlt : i < M.length
    · obtain ⟨ad, A5, c5, eA, hx0, hx1, hx2, hx3, hl5, hC5⟩ := at_T64 HCM.out (i : Int) (by omega) (by omega)
      subst eA
      have hm : (rd_T64 M (i : Int)).f3.length ≤ 100 := by
        have e : rd_T64 M (i : Int) = M[i] := by simp [rd_T64, List.getD_eq_getElem?_getD, List.getElem?_eq_getElem hlt]
        rw [e]
        exact HM100.out _ (List.getElem_mem hlt)
      rw [Int.toNat_natCast] at hx0 hx1 hx2 hx3
      generalize rd_T64 M (i : Int) = m at *
      have HX5 := Lib.hid (And.intro hx1 (And.intro hx2 hx3))
      have HC5 := Lib.hid hC5
      have h1 := pw_cell_below hb3 hx1
      have h2 := pw_cell_below hb3 hx2
      have h3 := pw_cell_below hb3 hx3
      clear hx0 hx1 hx2 hx3 hC5
      have hsr := hbw.size
      have hsr3 := hb3.size
      go_upto_region 7 with (fail)
      go_region_held3 (fun w' => w'.cell? ⟨(ad.add (i * 4)).block, (ad.add (i * 4)).off + 1, none⟩ = some (.string m.f1) ∧ w'.cell? ⟨(ad.add (i * 4)).block, (ad.add (i * 4)).off + 2, none⟩ = some (.string m.f2)) (go_keep) (fail)
      have hb1 := (Below.refl wr.heap.size wr).alloc (Nat.le_refl _) (.cells #[.int .i64 1, .string m.f1, .string m.f2, .slice none 0 0] 64)
      have hX6 := heap_alloc_new wr (.cells #[.int .i64 1, .string m.f1, .string m.f2, .slice none 0 0] 64)
      have hbw1 := hbw.trans (hb1.mono hsr)
      have hb31 := hb3.trans (hb1.mono hsr3)
      clear hb1 hbw hb3 h1 h2 h3
      change (wr.alloc _).drew.heap[wr.heap.size]? = _ at hX6
      replace hbw1 := hbw1.drew
      replace hb31 := hb31.drew
      generalize (wr.alloc (.cells #[.int .i64 1, .string m.f1, .string m.f2, .slice none 0 0] 64)).drew = wa at *
      have hg6 : w.heap.size ≤ wr.heap.size := hsr
      have hg6' := (Array.getElem?_eq_some_iff.1 hX6).1
      generalize wr.heap.size = g6 at *
      have HX6 := Lib.hid hX6
      have h1 := pw_cell_below hb31 HX5.out.1
      have h2 := pw_cell_below hb31 HX5.out.2.1
      have hsr1 := hbw1.size
      have hsr31 := hb31.size
      clear hX6 hsr hsr3
      go_upto_region 8 with (fail)
      go_region_held3 (fun w' => w'.cell? ⟨(ad.add (i * 4)).block, (ad.add (i * 4)).off + 1, none⟩ = some (.string m.f1) ∧ w'.cell? ⟨(ad.add (i * 4)).block, (ad.add (i * 4)).off + 2, none⟩ = some (.string m.f2)) (go_keep) (fail)
      have hb2 := (Below.refl wa.heap.size wa).alloc (Nat.le_refl _) (.cells #[.int .i64 2, .string m.f1, .string m.f2, .slice none 0 0] 64)
      have hX7 := heap_alloc_new wa (.cells #[.int .i64 2, .string m.f1, .string m.f2, .slice none 0 0] 64)
      have hX6 := (hb2.block _ hg6').trans HX6.out
      have hbw2 := hbw1.trans (hb2.mono hsr1)
      have hb32 := hb31.trans (hb2.mono hsr31)
      clear hb2 hbw1 hb31 h1 h2 HX6
      change (wa.alloc _).drew.heap[wa.heap.size]? = _ at hX7
      change (wa.alloc _).drew.heap[g6]? = _ at hX6
      replace hbw2 := hbw2.drew
      replace hb32 := hb32.drew
      generalize (wa.alloc (.cells #[.int .i64 2, .string m.f1, .string m.f2, .slice none 0 0] 64)).drew = wb at *
      have hg7' := (Array.getElem?_eq_some_iff.1 hX7).1
      have hg67 : g6 < wa.heap.size := hg6'
      generalize wa.heap.size = g7 at *
      have HX6 := Lib.hid hX6
      have HX7 := Lib.hid hX7
      have h1 := pw_cell_below hb32 HX5.out.1
      have hsr2 := hbw2.size
      have hsr32 := hb32.size
      clear hX6 hX7 hsr1 hsr31 hg6'
      have hg6' := (Array.getElem?_eq_some_iff.1 HX6.out).1
      go_upto_region 10 with (fail)
      have hb4 := (Below.refl wb.heap.size wb).alloc (Nat.le_refl _) (.cells #[.int .i64 3, .string m.f1, .string ⟨#[]⟩, .slice none 0 0] 64)
      have hX8 := heap_alloc_new wb (.cells #[.int .i64 3, .string m.f1, .string ⟨#[]⟩, .slice none 0 0] 64)
      have hX6 := (hb4.block _ hg6').trans HX6.out
      have hX7 := (hb4.block _ hg7').trans HX7.out
      have hbw4 := hbw2.trans (hb4.mono hsr2)
      have hb34 := hb32.trans (hb4.mono hsr32)
      clear hb4 hbw2 hb32 h1 HX6 HX7
      generalize wb.alloc (.cells #[.int .i64 3, .string m.f1, .string ⟨#[]⟩, .slice none 0 0] 64) = wc at *
      have hg78 : g7 < wb.heap.size := hg7'
      generalize wb.heap.size = g8 at *
      have hc60 := cell_at hX6 0
      have hc61 := cell_at hX6 1
      have hc62 := cell_at hX6 2
      have hc63 := cell_at hX6 3
      have HX6 := Lib.hid hX6
      have HX7 := Lib.hid hX7
      have HX8 := Lib.hid hX8
      have hl6 := (Array.getElem?_eq_some_iff.1 hX6).1
      have hl7 := (Array.getElem?_eq_some_iff.1 hX7).1
      have hl8 := (Array.getElem?_eq_some_iff.1 hX8).1
      have HBW4 := Lib.hid hbw4
      have HB34 := Lib.hid hb34
      have CE := Lib.hid (check_e m)
      have CU := Lib.hid (check_u m)
      have UC := Lib.hid (un_check m)
      clear hX6 hX7 hX8 hsr2 hsr32 hg7' hg6'
      by_cases he : checkV (eqM m) = 0
      · clear hbw4 hb34
        have CE0 := Lib.hid (show ∀ W : World, Calls Tryd.prog 25 #[.agg #[.int .i64 1, .string m.f1, .string m.f2, .slice none 0 0]] W fun e w' => e = .returned (.int .i64 0) ∧ Below W.heap.size W w' from fun W => by have := check_e m W; rwa [he] at this)
        go_wp2_with fail
        refine (CE0.out _).mono ?_
        rintro en wd ⟨rfl, hbd⟩
        have HX6' := Lib.hid ((hbd.block _ hl6).trans HX6.out)
        have HX7' := Lib.hid ((hbd.block _ hl7).trans HX7.out)
        have HX8' := Lib.hid ((hbd.block _ hl8).trans HX8.out)
        have hbwd := HBW4.out.trans (hbd.mono HBW4.out.size)
        have hb3d := HB34.out.trans (hbd.mono HB34.out.size)
        have hg6w : w.heap.size ≤ g8 := by omega
        clear hc60 hc61 hc62 hc63 HX6 HX7 HX8 HBW4 HB34 hbd CE CU UC CE0 hl6 hl7 hl8
        have h1 := pw_cell_below hb3d HX5.out.1
        have h3 := pw_cell_below hb3d HX5.out.2.2
        have hsd := hbwd.size
        have hsd3 := hb3d.size
        go_upto_region 13 with (first | (go_at_call 12; (with_reducible refine (num_calls _ _).mono ?_); rintro en wx ⟨rfl, hwx⟩; subst wx))
        go_region_held3 (fun w' => w'.cell? ⟨(ad.add (i * 4)).block, (ad.add (i * 4)).off + 1, none⟩ = some (.string m.f1) ∧ w'.cell? ⟨(ad.add (i * 4)).block, (ad.add (i * 4)).off + 3, none⟩ = some (.slice A5 m.f3.length c5)) (go_keep) (fail)
        have hb5 := (Below.refl wd.heap.size wd).alloc (Nat.le_refl _) (.cells #[.int .i64 4, .string m.f1, .string ⟨#[]⟩, .slice A5 m.f3.length c5] 64)
        have hX9 := heap_alloc_new wd (.cells #[.int .i64 4, .string m.f1, .string ⟨#[]⟩, .slice A5 m.f3.length c5] 64)
        have hX6 := (hb5.block _ (Array.getElem?_eq_some_iff.1 HX6'.out).1).trans HX6'.out
        have hX7 := (hb5.block _ (Array.getElem?_eq_some_iff.1 HX7'.out).1).trans HX7'.out
        have hX8 := (hb5.block _ (Array.getElem?_eq_some_iff.1 HX8'.out).1).trans HX8'.out
        have hbw5 := hbwd.trans (hb5.mono hsd)
        have hb35 := hb3d.trans (hb5.mono hsd3)
        clear hb5 hbwd hb3d h1 h3 HX6' HX7' HX8'
        change (wd.alloc _).drew.heap[wd.heap.size]? = _ at hX9
        change (wd.alloc _).drew.heap[g6]? = _ at hX6
        change (wd.alloc _).drew.heap[g7]? = _ at hX7
        change (wd.alloc _).drew.heap[g8]? = _ at hX8
        replace hbw5 := hbw5.drew
        replace hb35 := hb35.drew
        generalize (wd.alloc (.cells #[.int .i64 4, .string m.f1, .string ⟨#[]⟩, .slice A5 m.f3.length c5] 64)).drew = wk at *
        generalize wd.heap.size = g9 at *
        have HX6 := Lib.hid hX6
        have HX7 := Lib.hid hX7
        have HX8 := Lib.hid hX8
        have HX9 := Lib.hid hX9
        have HBW5 := Lib.hid hbw5
        have HB35 := Lib.hid hb35
        have HE0 := Lib.hid he
        clear hX6 hX7 hX8 hX9 hsd hsd3 hbw5 hb35 he
        go_wp2_with fail
        go_loopw [10] (fun v wr => ∃ k : Nat, v = .int .i64 k ∧ k ≤ R.length ∧ Below wk.heap.size wk wr) (fun v _ => R.length - (intOf v).toNat)
        case atStart => exact ⟨0, rfl, by omega, Below.refl _ _⟩
        case round =>
        obtain ⟨k, rfl, hk, hbk⟩ := hrel
        by_cases hlk : k < R.length
        · obtain ⟨ad2, A6, c6, eA2, hy, hl6, hC6⟩ := at_L2 HCR.out (k : Int) (by omega) (by omega)
          subst eA2
          have hl16 : (rd_L2 R (k : Int)).length ≤ 16 := by
            have e : rd_L2 R (k : Int) = R[k] := by simp [rd_L2, List.getD_eq_getElem?_getD, List.getElem?_eq_getElem hlk]
            rw [e]
            exact HR16.out _ (List.getElem_mem hlk)
          rw [Int.toNat_natCast] at hy
          generalize rd_L2 R (k : Int) = l at *
          have HY6 := Lib.hid hy
          have HC6 := Lib.hid hC6
          clear hy hC6
          have HB3r := Lib.hid (HB35.out.trans (hbk.mono HB35.out.size))
          have hr6 := (hbk.block _ (Array.getElem?_eq_some_iff.1 HX6.out).1).trans HX6.out
          have hr7 := (hbk.block _ (Array.getElem?_eq_some_iff.1 HX7.out).1).trans HX7.out
          have hr8 := (hbk.block _ (Array.getElem?_eq_some_iff.1 HX8.out).1).trans HX8.out
          have LC := Lib.hid (fun (p : BelowAt wr.heap.size wr) => Kd.C_below HC6.out (HB3r.out.trans (p.h.mono HB3r.out.size)))
          have E1 := match_eq m HE0.out l
          have E2 := match_unl m HE0.out l
          have E3 := match_all m HE0.out l
          have E4 := fun h => match_any m h l
          have LE := fun (p : BelowAt wr.heap.size wr) => match_e m A6 c6 l p.u (LC.out p) hl6 hl16
          have LU := fun (p : BelowAt wr.heap.size wr) => match_u m A6 c6 l p.u (LC.out p) hl6 hl16
          have LA := fun (p : BelowAt wr.heap.size wr) => match_a m A6 c6 l p.u (LC.out p) hl6 hl16
          have LG := Lib.hid (fun (W : World) (h : Kd.C k27 W A6 l.length l) => get_f A6 c6 l m.f1 W h hl6 hl16)
          have LM := Lib.hid (fun (W : World) (h : Kd.C k27 W A6 l.length l) (h' : Kd.C Kd.string W A5 m.f3.length m.f3) => match_s m A5 c5 A6 c6 l W h' hm h hl6 hl16)
          have LGP := Lib.hid (fun (p : BelowAt wr.heap.size wr) => LG.out p.u (LC.out p))
          generalize getL l m.f1 = gv at *
          have y0 := fun (p : BelowAt wr.heap.size wr) => pw_cell_below p.h (pw_cell_below HB3r.out HY6.out)
          have y1 := fun (p : BelowAt wr.heap.size wr) => pw_cell_below p.h (pw_cell_below HB3r.out HX5.out.1)
          have y2 := fun (p : BelowAt wr.heap.size wr) => pw_cell_below p.h (pw_cell_below HB3r.out HX5.out.2.1)
          have z60 := fun (p : BelowAt wr.heap.size wr) => pw_cell_below p.h (cell_at hr6 0)
          have z61 := fun (p : BelowAt wr.heap.size wr) => pw_cell_below p.h (cell_at hr6 1)
          have z62 := fun (p : BelowAt wr.heap.size wr) => pw_cell_below p.h (cell_at hr6 2)
          have z63 := fun (p : BelowAt wr.heap.size wr) => pw_cell_below p.h (cell_at hr6 3)
          have z70 := fun (p : BelowAt wr.heap.size wr) => pw_cell_below p.h (cell_at hr7 0)
          have z71 := fun (p : BelowAt wr.heap.size wr) => pw_cell_below p.h (cell_at hr7 1)
          have z72 := fun (p : BelowAt wr.heap.size wr) => pw_cell_below p.h (cell_at hr7 2)
          have z73 := fun (p : BelowAt wr.heap.size wr) => pw_cell_below p.h (cell_at hr7 3)
          have z80 := fun (p : BelowAt wr.heap.size wr) => pw_cell_below p.h (cell_at hr8 0)
          have z81 := fun (p : BelowAt wr.heap.size wr) => pw_cell_below p.h (cell_at hr8 1)
          have z82 := fun (p : BelowAt wr.heap.size wr) => pw_cell_below p.h (cell_at hr8 2)
          have z83 := fun (p : BelowAt wr.heap.size wr) => pw_cell_below p.h (cell_at hr8 3)
          have HBK := Lib.hid hbk
          rw [E1] at LE
          rw [E2] at LU
          rw [E3] at LA
          clear hr6 hr7 hr8 hbk E1 E2 E3
          have LE := Lib.hid LE
          have LU := Lib.hid LU
          have LA := Lib.hid LA
          go_upto_region 17 with (fail)
          go_cut [134] (fun v wc => v = .bool false ∧ Below wr.heap.size wr wc)
          case first =>
            cases hgv : (gv.toList == m.f2.toList)
            all_goals
              rw [hgv] at LE LU
              refine wp_region_quiet_below wr.heap.size wr (by kernel_rfl) (by kernel_rfl) (Below.refl _ _) ?_
              repeat go_big_quiet_step (first | (go_at_call 26; with_reducible exact calls_below_of (Nat.le_refl _) (LE.out _)) | (go_at_call 26; with_reducible exact calls_below_of (Nat.le_refl _) (LU.out _)) | (go_at_call 26; with_reducible exact calls_below_of (Nat.le_refl _) (LA.out _)) | (go_at_call 14; with_reducible exact calls_below_of (Nat.le_refl _) (LGP.out _)))
              refine wpQuiet_nil ?_
              rintro _ ⟨⟨wq, hbq⟩, rfl⟩
              go_wp2
              go_meet
              case rel => exact ⟨rfl, hbq⟩
          case rest =>
            clear y0 y1 y2 z60 z61 z62 z63 z70 z71 z72 z73 z80 z81 z82 z83 LE LU LA LGP LC HB3r
            obtain ⟨rfl, hcut⟩ := hcut
            have hbkc := HBK.out.trans (hcut.mono HBK.out.size)
            clear hcut HBK
            go_wp2_with fail
            go_loopw [11, 12] (fun va v wr => ∃ n : Nat, v = .int .i64 n ∧ va = .bool ((m.f3.take n).any fun x => gv.toList == x.toList) ∧ n ≤ m.f3.length ∧ Below wk.heap.size wk wr) (fun _ v _ => m.f3.length - (intOf v).toNat)
            case atStart => exact ⟨0, rfl, rfl, by omega, hbkc⟩
            case round =>
            obtain ⟨n, rfl, rfl, hn, hbn⟩ := hrel
            have HBN := Lib.hid hbn
            have HB3n := Lib.hid (HB35.out.trans (hbn.mono HB35.out.size))
            have x3 := pw_cell_below HB3n.out HX5.out.2.2
            clear hbn hbkc
            by_cases hln : n < m.f3.length
            · obtain ⟨ad5, eA5, hy5⟩ := at_S HC5.out n hln
              subst eA5
              have HT := Lib.hid (show (m.f3.take (n + 1)).any (fun x => gv.toList == x.toList) = ((m.f3.take n).any (fun x => gv.toList == x.toList) || (gv.toList == m.f3[n].toList)) by rw [List.take_succ_eq_append_getElem hln, List.any_append]; simp)
              have HY5 := Lib.hid hy5
              generalize m.f3[n] = wd5 at *
              generalize hb1 : (m.f3.take n).any (fun x => gv.toList == x.toList) = b1 at *
              clear hy5 hb1
              go_upto_region 23 with (fail)
              have y0 := fun (p : BelowAt wr.heap.size wr) => pw_cell_below p.h (pw_cell_below HB3n.out HY6.out)
              have y1 := fun (p : BelowAt wr.heap.size wr) => pw_cell_below p.h (pw_cell_below HB3n.out HX5.out.1)
              have y3 := fun (p : BelowAt wr.heap.size wr) => pw_cell_below p.h (pw_cell_below HB3n.out HX5.out.2.2)
              have y5 := fun (p : BelowAt wr.heap.size wr) => pw_cell_below p.h (pw_cell_below HB3n.out HY5.out)
              have LGP := Lib.hid (fun (p : BelowAt wr.heap.size wr) => LG.out p.u (Kd.C_below HC6.out (HB3n.out.trans (p.h.mono HB3n.out.size))))
              clear x3
              cases b1
              all_goals
                refine wp_region_quiet_below wr.heap.size wr (by kernel_rfl) (by kernel_rfl) (Below.refl _ _) ?_
                repeat go_big_quiet_step (first | (go_at_call 14; with_reducible exact calls_below_of (Nat.le_refl _) (LGP.out _)))
                refine wpQuiet_nil ?_
                rintro _ ⟨⟨wq, hbq⟩, rfl⟩
                clear y0 y1 y3 y5 LGP
                go_wp2_with fail
                go_roundw
                case rel => exact ⟨n + 1, by go_num, by rw [HT.out]; rfl, by omega, HBN.out.trans (hbq.mono HBN.out.size)⟩
                case measure => simp [intOf]; omega
            · have hn2 : m.f3.take n = m.f3 := List.take_of_length_le (by omega)
              rw [hn2]
              clear hn2
              generalize hb1 : (m.f3).any (fun x => gv.toList == x.toList) = b1 at *
              go_upto_region 24 with (fail)
              have hr9 := (HBN.out.block _ (Array.getElem?_eq_some_iff.1 HX9.out).1).trans HX9.out
              have y0 := fun (p : BelowAt wr.heap.size wr) => pw_cell_below p.h (pw_cell_below HB3n.out HY6.out)
              have z90 := fun (p : BelowAt wr.heap.size wr) => pw_cell_below p.h (cell_at hr9 0)
              have z91 := fun (p : BelowAt wr.heap.size wr) => pw_cell_below p.h (cell_at hr9 1)
              have z92 := fun (p : BelowAt wr.heap.size wr) => pw_cell_below p.h (cell_at hr9 2)
              have z93 := fun (p : BelowAt wr.heap.size wr) => pw_cell_below p.h (cell_at hr9 3)
              have LS := fun (p : BelowAt wr.heap.size wr) => check_s m A5 c5 p.u (Kd.C_below HC5.out (HB3n.out.trans (p.h.mono HB3n.out.size))) hm
              have LN := Lib.hid (fun (e : Int) (p : BelowAt wr.heap.size wr) => num_calls e p.u)
              have LMP := fun (p : BelowAt wr.heap.size wr) => LM.out p.u (Kd.C_below HC6.out (HB3n.out.trans (p.h.mono HB3n.out.size))) (Kd.C_below HC5.out (HB3n.out.trans (p.h.mono HB3n.out.size)))
              clear hr9 x3
              by_cases h4 : checkV (anyM m) = 0
              · rw [h4] at LS
                rw [E4 h4] at LMP
                have LS := Lib.hid LS
                have LMP := Lib.hid LMP
                clear h4 hb1
                cases b1
                all_goals
                  refine wp_region_quiet_below wr.heap.size wr (by kernel_rfl) (by kernel_rfl) (Below.refl _ _) ?_
                  repeat go_big_quiet_step (first | (go_at_call 25; with_reducible exact calls_below_of (Nat.le_refl _) (LS.out _)) | (go_at_call 12; with_reducible exact calls_below_same (LN.out _ _)) | (go_at_call 26; with_reducible exact calls_below_of (Nat.le_refl _) (LMP.out _)))
                  refine wpQuiet_nil ?_
                  rintro _ ⟨⟨wq, hbq⟩, rfl⟩
                  clear y0 z90 z91 z92 z93
                  go_wp2_with fail
                  go_roundw
                  case rel => exact ⟨k + 1, by go_num, by omega, HBN.out.trans (hbq.mono HBN.out.size)⟩
                  case measure => simp [intOf]; omega
              · generalize checkV (anyM m) = e4 at *
                have hne : (e4 == 0) = false := beq_false_of_ne h4
                have LS := Lib.hid LS
                clear h4 hb1 LMP
                refine wp_region_quiet_below wr.heap.size wr (by kernel_rfl) (by kernel_rfl) (Below.refl _ _) ?_
                repeat go_big_quiet_step (first | (go_at_call 25; with_reducible exact calls_below_of (Nat.le_refl _) (LS.out _)) | (go_at_call 12; with_reducible exact calls_below_same (LN.out _ _)))
                refine wpQuiet_nil ?_
                rintro _ ⟨⟨wq, hbq⟩, rfl⟩
                clear y0 z90 z91 z92 z93
                go_wp2_with fail
                go_roundw
                case rel => exact ⟨k + 1, by go_num, by omega, HBN.out.trans (hbq.mono HBN.out.size)⟩
                case measure => simp [intOf]; omega
        · go_wp2_with fail
          go_roundw
          case rel => exact ⟨i + 1, by go_num, by omega, HBW5.out.trans (hbk.mono HBW5.out.size), HB35.out.trans (hbk.mono HB35.out.size)⟩
          case measure => simp [intOf]; omega
      · have M1 := match_e m none 0 [] 
        have M2 := match_u m none 0 []
        rw [match_un _ he] at M1
        rw [match_un _ (fun h => he (UC.out.1 h))] at M2
        have ME := Lib.hid (show ∀ W : World, Calls Tryd.prog 26 #[.agg #[.int .i64 1, .string m.f1, .string m.f2, .slice none 0 0], .slice none 0 0] W fun e w' => e = .returned (.bool false) ∧ Below W.heap.size W w' from fun W => M1 W (Kd.C_nil _ _) (Nat.le_refl _) (by simp))
        have MU := Lib.hid (show ∀ W : World, Calls Tryd.prog 26 #[.agg #[.int .i64 2, .string m.f1, .string m.f2, .slice none 0 0], .slice none 0 0] W fun e w' => e = .returned (.bool false) ∧ Below W.heap.size W w' from fun W => M2 W (Kd.C_nil _ _) (Nat.le_refl _) (by simp))
        have hu : checkV (unM m) ≠ 0 := fun h => he (UC.out.1 h)
        clear M1 M2 UC
        generalize checkV (eqM m) = e1 at *
        generalize checkV (unM m) = e2 at *
        have he1 : (e1 != 0) = true := bne_iff_ne.2 he
        have he2 : (e2 == 0) = false := beq_false_of_ne hu
        clear he hu
        go_wp2_with fail
        refine (CE.out _).mono ?_
        rintro en wd ⟨rfl, hbd⟩
        have hX7 := (hbd.block _ hl7).trans HX7.out
        have hc70 := cell_at hX7 0
        have hc71 := cell_at hX7 1
        have hc72 := cell_at hX7 2
        have hc73 := cell_at hX7 3
        clear hc60 hc61 hc62 hc63
        go_wp2_with (first | (go_at_call 12; (with_reducible refine (num_calls _ _).mono ?_); rintro en wx ⟨rfl, hwx⟩; subst wx))
        refine (CU.out _).mono ?_
        rintro en we ⟨rfl, hbe⟩
        have hbe := hbd.trans (hbe.mono hbd.size)
        have hX6 := (hbe.block _ hl6).trans HX6.out
        have hc60 := cell_at hX6 0
        have hc61 := cell_at hX6 1
        have hc62 := cell_at hX6 2
        have hc63 := cell_at hX6 3
        clear hc70 hc71 hc72 hc73 hX7 hX6 hbd
        go_wp2_with (first | (go_at_call 12; (with_reducible refine (num_calls _ _).mono ?_); rintro en wx ⟨rfl, hwx⟩; subst wx))
        refine (ME.out _).mono ?_
        rintro en wf ⟨rfl, hbf⟩
        have hbf := hbe.trans (hbf.mono hbe.size)
        have hX7 := (hbf.block _ hl7).trans HX7.out
        have hc70 := cell_at hX7 0
        have hc71 := cell_at hX7 1
        have hc72 := cell_at hX7 2
        have hc73 := cell_at hX7 3
        clear hc60 hc61 hc62 hc63 hX7 hbe
        go_wp2_with fail
        refine (MU.out _).mono ?_
        rintro en wg ⟨rfl, hbg⟩
        have hbg := hbf.trans (hbg.mono hbf.size)
        clear hc70 hc71 hc72 hc73 hbf
        go_wp2_with fail
        go_roundw
        case rel => exact ⟨i + 1, by go_num, by omega, HBW4.out.trans (hbg.mono HBW4.out.size), HB34.out.trans (hbg.mono HB34.out.size)⟩
        case measure => simp [intOf]; omega
    · have W0 := Lib.hid (works_calls wr (HE.out.below hbw))
      clear hb3
      go_wp2_with fail
      refine W0.out.mono ?_
      rintro en wd ⟨rfl, hbd⟩
      go_wp2_with fail
      go_ret
      exact ⟨rfl, hbw.trans (hbd.mono hbw.size)⟩
end Go.Proofs.YtkanfffbdegfoaaDoor.PD
