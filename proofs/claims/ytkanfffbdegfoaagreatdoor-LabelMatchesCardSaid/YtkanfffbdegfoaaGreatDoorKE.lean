/- The contract of label.Text: the text of labels, or that they are no set. It asks package utf8's tables. The contract of label.Key: the key of labels, or that they are no set. It asks the variable that package bytealg's MaxLen is. The contracts of the reader's methods: blanks, one, label. No condition beyond what each states. -/
import Derived.Test.YtkanfffbdegfoaaGreatDoorKD
import Derived.Test.YtkanfffbdegfoaaGreatDoorKC
namespace Go.Proofs.YtkanfffbdegfoaaGreatDoor.PD
set_option linter.unusedVariables false
set_option linter.unusedSimpArgs false
section
open Go.RowKit Go.Proofs.YtkanfffbdegfoaaGreatDoorW.PrintWords Go.Proofs.YtkanfffbdegfoaaGreatDoorW.PrintLast Go.Proofs.YtkanfffbdegfoaaGreatDoorW.PrintMore

/-- strings.Join over a row of the call's own. -/
theorem join_own (v : Value) (xs : List ByteArray) (sep : ByteArray) (w : World) (base : Nat) (ok : Nat → Prop) (h : Kd.R Kd.string 9 w base ok v xs) (hN : xs.length ≤ 140737488355328) (hlen : (Lib.join (xs.map (·.data.toList)) sep.data.toList).length ≤ 140737488355328) :
    Calls Tryz.prog 76 #[v, .string sep] w fun e w' => e = .returned (.string ⟨(Lib.join (xs.map (·.data.toList)) sep.data.toList).toArray⟩) ∧ Below w.heap.size w w' := by
  obtain ⟨inner, ho⟩ := Kd.R_own h
  obtain ⟨A, c, hv, hcap, hC⟩ := Kd.R_reads h
  rcases ho.2 with ⟨rfl, hn⟩ | ⟨g, cap, cur, rfl, hb, hh, hn, hcap2, hsz, htk⟩
  · have hx : xs = [] := List.eq_nil_of_length_eq_zero hn
    subst hx
    refine (Tryz.strings_Join_none none 0 sep w).mono ?_
    rintro e w' ⟨rfl, rfl⟩
    exact ⟨rfl, Below.refl _ _⟩
  · injection hv with hA _ hc
    subst hA hc
    refine Tryz.strings_Join g 0 cap xs sep w (fun j x hj => ?_) (Array.getElem?_eq_some_iff.1 hh).1 hN hn hlen
    have hjl : j < xs.length := (List.getElem?_eq_some_iff.1 hj).1
    obtain ⟨ad, cs, e, _, hK, hc0⟩ := Kd.C_get hC (⟨#[]⟩ : ByteArray) (j : Int) (by omega) (by omega)
    cases e
    have hg : xs.getD (j : Int).toNat ⟨#[]⟩ = x := by simp [List.getD_eq_getElem?_getD, hj]
    rw [hg] at hK
    obtain rfl : cs = [.string x] := hK
    have := hc0 0 _ rfl
    have e : (⟨g, 0, none⟩ : Addr).add (j * 1 + 0) = ⟨g, 0 + j, none⟩ := by simp [Addr.add]; exact Eq.symm
    rw [← e]
    exact this

/-- A label's text. -/
def partL (x : S130) : ByteArray := x.f0 ++ (⟨#[61]⟩ : ByteArray) ++ ⟨(quoteL x.f1).toArray⟩
def textL (l : List S130) : ByteArray × Int := if isSetL l then ((⟨#[123]⟩ : ByteArray) ++ ⟨(Lib.join ((l.map partL).map (·.data.toList)) [44]).toArray⟩ ++ (⟨#[125]⟩ : ByteArray), 0) else (⟨#[]⟩, 134)

theorem qPiece_le (s : ByteArray) (i : Nat) (h : i < s.size) : (qPiece s i h).length ≤ 4 * (Utf8.decode s i).2 := by
  have hw := width_pos s i h
  have hd := dec_le s i h
  unfold qPiece
  repeat' split
  all_goals first
    | (simp; omega)
    | (rw [data_length]; simp; omega)
theorem quoteFrom_le (s : ByteArray) : ∀ (b i : Nat), (quoteFrom s b i).length ≤ 4 * (s.size - i)
  | 0, i => by simp [quoteFrom]
  | b + 1, i => by
    by_cases h : i < s.size
    · rw [quote_step h, List.length_append]
      have h1 := qPiece_le s i h
      have h2 := quoteFrom_le s b (i + (Utf8.decode s i).2)
      have h3 := dec_le s i h
      omega
    · rw [quote_over h]
      exact Nat.zero_le _
theorem quoteL_le (s : ByteArray) : (quoteL s).length ≤ 4 * s.size + 2 := by
  have := quoteFrom_le s (s.size + 1) 0
  rw [quoteL, List.length_append, List.length_append]
  simp
  omega
theorem joinTail_le (sep : List UInt8) (B : Nat) : ∀ (r : List (List UInt8)), (∀ x ∈ r, x.length ≤ B) → (Lib.joinTail sep r).length ≤ r.length * (sep.length + B)
  | [], _ => by simp [Lib.joinTail]
  | x :: r, h => by
    have ih := joinTail_le sep B r (fun y hy => h y (List.mem_cons_of_mem _ hy))
    have hx := h x List.mem_cons_self
    have e : Lib.joinTail sep (x :: r) = sep ++ x ++ Lib.joinTail sep r := by simp [Lib.joinTail]
    rw [e, List.length_append, List.length_append, List.length_cons, Nat.add_mul, Nat.one_mul]
    omega
theorem join_le (sep : List UInt8) (B : Nat) (r : List (List UInt8)) (h : ∀ x ∈ r, x.length ≤ B) : (Lib.join r sep).length ≤ r.length * (sep.length + B) := by
  cases r with
  | nil => simp [Lib.join_nil]
  | cons x r =>
    rw [Lib.join_cons, List.length_append, List.length_cons, Nat.add_mul, Nat.one_mul]
    have h1 := joinTail_le sep B r (fun y hy => h y (List.mem_cons_of_mem _ hy))
    have h2 := h x List.mem_cons_self
    omega
theorem goodL_sizes {x : S130} (h : goodL x = true) : x.f0.size ≤ 64 ∧ x.f1.size ≤ 256 := by
  rw [goodL, Bool.and_eq_true, Bool.and_eq_true, nameB, valB] at h
  simp at h
  omega
theorem partL_le {x : S130} (h : goodL x = true) : (partL x).size ≤ 1200 := by
  have h1 := goodL_sizes h
  have h2 := quoteL_le x.f1
  have h3 : (⟨(quoteL x.f1).toArray⟩ : ByteArray).size = (quoteL x.f1).length := by simp [ByteArray.size]
  have h4 : (⟨#[61]⟩ : ByteArray).size = 1 := rfl
  rw [partL, ByteArray.size_append, ByteArray.size_append, h3, h4]
  omega
theorem isSetL_all {l : List S130} (h : isSetL l = true) : l.length ≤ 16 ∧ (∀ x ∈ l, goodL x = true) ∧ ascL l = true := by
  rw [isSetL, Bool.and_eq_true, Bool.and_eq_true, decide_eq_true_iff, List.all_eq_true] at h
  exact ⟨h.1.1, h.1.2, h.2⟩
theorem textJoin_le {l : List S130} (h : isSetL l = true) : (Lib.join ((l.map partL).map (·.data.toList)) [44]).length ≤ 100000 := by
  obtain ⟨h1, h2, _⟩ := isSetL_all h
  have h3 := join_le [44] 1200 ((l.map partL).map (·.data.toList)) (fun x hx => by
    obtain ⟨y, hy, rfl⟩ := List.mem_map.1 hx
    obtain ⟨z, hz, rfl⟩ := List.mem_map.1 hy
    show (partL z).data.toList.length ≤ 1200
    rw [data_length]
    exact partL_le (h2 z hz))
  rw [List.length_map, List.length_map, show ([44] : List UInt8).length = 1 from rfl] at h3
  omega
set_option maxHeartbeats 4000000 in
set_option maxRecDepth 100000 in
theorem text_calls (A0 : Option Addr) (c0 : Nat) (l : List S130) (w : World) (hr0 : Kd.C k130 w A0 l.length l) (hlen : l.length ≤ 1099511627776) (hT : Lib.Utf8Tabs 0 1 w) :
    Calls Tryz.prog 21 #[.slice A0 l.length c0] w fun e w' => e = .returned (.tuple #[.string (textL l).1, .int .i64 (textL l).2]) ∧ Below w.heap.size w w' := by
  have HR := Lib.hid hr0
  have HT := Lib.hid hT
  have C1 := Lib.hid (isSet_calls A0 c0 l w hr0 hlen)
  clear hr0 hT
  generalize hres : textL l = res
  have HS := Lib.hid hres
  clear hres
  cases hset : isSetL l
  · have HE := Lib.hid (show res = (⟨#[]⟩, 134) by rw [← HS.out, textL, hset]; rfl)
    rw [hset] at C1
    clear hset
    go_enter Tryz.func21, Tryz.ntmps21
    go_wp2_with fail
    refine C1.out.mono ?_
    rintro e w1 ⟨rfl, hb1⟩
    go_wp2
    go_ret2
    rw [HE.out]
    exact ⟨rfl, hb1⟩
  · have HE := Lib.hid (show res = ((⟨#[123]⟩ : ByteArray) ++ ⟨(Lib.join ((l.map partL).map (·.data.toList)) [44]).toArray⟩ ++ (⟨#[125]⟩ : ByteArray), 0) by rw [← HS.out, textL, hset]; rfl)
    rw [hset] at C1
    have HSet := Lib.hid hset
    clear hset
    go_enter Tryz.func21, Tryz.ntmps21
    go_wp2_with fail
    refine C1.out.mono ?_
    rintro e w1 ⟨rfl, hb1⟩
    go_wp2_with fail
    go_loopw [4, 12] (fun v4 v wr => ∃ k : Nat, v = .int .i64 k ∧ k ≤ l.length ∧ Hid (Kd.R Kd.string 9 wr w.heap.size (fun _ => True) v4 ((l.take k).map partL)) ∧ Below w.heap.size w wr) (fun _ v _ => l.length - (intOf v).toNat)
    case atStart => exact ⟨0, rfl, by omega, Lib.hid (Kd.R_nil _ _ _ _ _), hb1⟩
    case round =>
      obtain ⟨k, rfl, hk, hR, hbw⟩ := hrel
      by_cases hlt : k < l.length
      · obtain ⟨ad, rfl, h0, h1⟩ := at_N HR.out k hlt
        have h0' := pw_cell_below hbw h0
        have h1' := pw_cell_below hbw h1
        clear h0 h1
        go_upto_region 7 with (fail)
        have hbox : (wr.alloc (.cells #[.string l[k].f0, .string l[k].f1] 130)).cell? ⟨wr.heap.size, 0, none⟩ = some (.string l[k].f0) := by unfold World.cell?; rw [heap_alloc_new]; rfl
        have hbox1 : (wr.alloc (.cells #[.string l[k].f0, .string l[k].f1] 130)).cell? ⟨wr.heap.size, 1, none⟩ = some (.string l[k].f1) := by unfold World.cell?; rw [heap_alloc_new]; rfl
        have hba := hbw.alloc hbw.size (.cells #[.string l[k].f0, .string l[k].f1] 130)
        have hRa := Kd.R_alloc hR.out (.cells #[.string l[k].f0, .string l[k].f1] 130)
        clear hR
        have HGB := Lib.hid (show (wr.alloc (.cells #[.string l[k].f0, .string l[k].f1] 130)).heap[wr.heap.size]? = some (.cells #[.string l[k].f0, .string l[k].f1] 130 (0, 0)) from heap_alloc_new _ _)
        generalize hwa : wr.alloc (.cells #[.string l[k].f0, .string l[k].f1] 130) = wa at *
        generalize hg : wr.heap.size = g at *
        clear hwa hg h0' h1' hbw
        have hgd := goodL_sizes ((isSetL_all HSet.out).2.1 l[k] (List.getElem_mem hlt))
        have hvs : l[k].f1.size ≤ 17592186044416 := by omega
        have Q1 := Lib.hid (show ∀ W : World, Lib.Utf8Tabs 0 1 W → _ from fun W hD => quote_any l[k].f1 W hvs (Or.inl hD))
        have hns : l[k].f0.size ≤ 64 := hgd.1
        have hqs : (⟨(quoteL l[k].f1).toArray⟩ : ByteArray).size ≤ 5000 := by
          have h2 := quoteL_le l[k].f1
          have h3 : (⟨(quoteL l[k].f1).toArray⟩ : ByteArray).size = (quoteL l[k].f1).length := by simp [ByteArray.size]
          omega
        clear hgd
        have hpart : partL l[k] = l[k].f0 ++ (⟨#[61]⟩ : ByteArray) ++ ⟨(quoteL l[k].f1).toArray⟩ := rfl
        generalize (⟨(quoteL l[k].f1).toArray⟩ : ByteArray) = q at hqs hpart Q1
        have hA1 : ¬ (9223372036854775807 < l[k].f0.size + 1) := by omega
        have hA2 : ¬ (9223372036854775807 < l[k].f0.size + 1 + q.size) := by omega
        have HP := Lib.hid hpart
        clear hpart
        have hgb : wa.heap[g]? = some (.cells #[.string l[k].f0, .string l[k].f1] 130 (0, 0)) := HGB.out
        have hne : some g ≠ u4.ownBlock := Kd.R_ne hRa hgb (by decide)
        clear hgb
        go_region_held3 (fun w' => w'.cell? ⟨g, 0, none⟩ = some (.string l[k].f0) ∧ w'.cell? ⟨g, 1, none⟩ = some (.string l[k].f1))
          (first | exact ⟨hbox, hbox1⟩ | exact ⟨hX3, hX4⟩ | exact ⟨pw_cell_below ((Below.refl _ _).alloc (Nat.le_refl _) _) hX3, pw_cell_below ((Below.refl _ _).alloc (Nat.le_refl _) _) hX4⟩ | exact ⟨hX5, hX6⟩)
          (first
            | (go_at_call 12; (with_reducible refine (Q1.out _ (Utf8Tabs_below HT.out (below_drew1 hba))).mono ?_); rintro e w' ⟨rfl, hb2⟩; have hX1 : Below w.heap.size w w' := Below.trans (below_drew1 hba) (Below.mono hb2 (below_drew1 hba).size); have hX2 := Kd.R_below (Kd.R_drew hRa) hb2; have hX3 := pw_cell_below hb2 (show wa.drew.cell? ⟨g, 0, none⟩ = _ from hbox); have hX4 := pw_cell_below hb2 (show wa.drew.cell? ⟨g, 1, none⟩ = _ from hbox1))
            | (refine Kd.R_append_step Kd.string (w0 := w) w.heap.size (by rfl) (.tmp 16) (.tmp 24) 22 9 (.string ⟨#[]⟩) 16 rfl Tryz.underlying22 info9 rfl (by decide) (by omega) u4 ((l.take k).map partL) (l[k].f0 ++ (⟨#[61]⟩ : ByteArray) ++ q) [.string (l[k].f0 ++ (⟨#[61]⟩ : ByteArray) ++ q)] (fun _ => True) (fun _ => False) rfl rfl rfl (fun _ hk => hk.elim) (fun _ _ => trivial) hX2 hX1 hX1.size ?aL ?_; (case aL => rw [List.length_map, List.length_take]; omega); rintro v5 w5 ho hb5 hg5 hat5; have hX5 := hg5.cell hX3 hne; have hX6 := hg5.cell hX4 hne))
        go_wp2
        go_roundw
        case rel => exact ⟨k + 1, by go_num, by omega, Lib.hid (by rw [List.take_succ_eq_append_getElem hlt, List.map_append, List.map_singleton, HP.out]; exact ho), hb5⟩
        case measure => simp [intOf]; omega
      · obtain ⟨A, c, rfl, hcl, hC⟩ := Kd.R_reads hR.out
        have htk : l.take k = l := List.take_of_length_le (by omega)
        rw [htk] at hR ⊢
        have hjl : (Lib.join ((l.map partL).map (·.data.toList)) [44]).length ≤ 100000 := textJoin_le HSet.out
        have J := Lib.hid (join_own _ (l.map partL) (⟨#[44]⟩ : ByteArray) wr _ _ hR.out (by rw [List.length_map]; omega) (by show (Lib.join ((l.map partL).map (·.data.toList)) [44]).length ≤ _; omega))
        have hj2 : (⟨(Lib.join ((l.map partL).map (·.data.toList)) [44]).toArray⟩ : ByteArray).size ≤ 100000 := by simpa [ByteArray.size] using hjl
        replace HE := HE.out
        replace J := J.out
        rw [List.length_map] at J
        change Calls _ _ _ _ (fun e w' => e = .returned (.string ⟨(Lib.join ((l.map partL).map (·.data.toList)) [44]).toArray⟩) ∧ _) at J
        generalize (⟨(Lib.join ((l.map partL).map (·.data.toList)) [44]).toArray⟩ : ByteArray) = q at hj2 HE J
        have hA1 : ¬ (9223372036854775807 < 1 + q.size) := by omega
        have hA2 : ¬ (9223372036854775807 < 1 + q.size + 1) := by omega
        replace HE := Lib.hid HE
        replace J := Lib.hid J
        clear hjl
        go_wp2_with fail
        (with_reducible refine J.out.mono ?_)
        rintro e w2 ⟨rfl, hb2⟩
        go_wp2
        go_ret2
        rw [HE.out]
        exact ⟨rfl, hbw.trans (hb2.mono hbw.size)⟩
end
section
open Go.RowKit Go.Proofs.YtkanfffbdegfoaaGreatDoorW.PrintWords Go.Proofs.YtkanfffbdegfoaaGreatDoorW.PrintLast Go.Proofs.YtkanfffbdegfoaaGreatDoorW.PrintMore

/-- A value as it stands in a key: behind each byte 0 a byte 255. -/
def esc0 : List UInt8 → List UInt8
  | [] => []
  | b :: l => if b = 0 then 0 :: 255 :: esc0 l else b :: esc0 l
theorem esc0_le : ∀ l : List UInt8, (esc0 l).length ≤ 2 * l.length
  | [] => Nat.le_refl _
  | b :: l => by
    have := esc0_le l
    rw [esc0]
    split <;> simp <;> omega
theorem repK_eq : ∀ s : List UInt8, Lib.replaceK [0] [0, 255] (Lib.count s [0]) s = esc0 s
  | [] => by
    have h : Lib.index [] [(0 : UInt8)] = -1 := by decide
    rw [Lib.count_miss h]
    rfl
  | b :: l => by
    have ih := repK_eq l
    have hix : Lib.index (b :: l) [0] = if [(0 : UInt8)].isPrefixOf (b :: l) = true then 0 else if Lib.index l [0] == -1 then -1 else Lib.index l [0] + 1 := by
      rw [Lib.index]
    by_cases hb : b = 0
    · subst hb
      have h0 : Lib.index ((0 : UInt8) :: l) [0] = (0 : Nat) := by rw [hix]; rfl
      rw [Lib.count_hit (by decide) h0, Nat.add_comm, Lib.replaceK_hit _ _ _ _ 0 h0, esc0, if_pos rfl]
      simpa using ih
    · have hp : [(0 : UInt8)].isPrefixOf (b :: l) = false := by
        show ((0 == b) && _) = false
        rw [beq_eq_false_iff_ne.2 (Ne.symm hb)]
        rfl
      rw [hp, if_neg (by decide)] at hix
      rw [esc0, if_neg hb, ← ih]
      by_cases hm : Lib.index l [0] = -1
      · have h1 : Lib.index (b :: l) [0] = -1 := by rw [hix, hm]; rfl
        rw [Lib.count_miss h1, Lib.count_miss hm]
        simp [Lib.replaceK]
      · have hge := Lib.index_ge l [0]
        obtain ⟨i, hi⟩ : ∃ i : Nat, Lib.index l [0] = i := ⟨(Lib.index l [0]).toNat, by omega⟩
        have h1 : Lib.index (b :: l) [0] = (i + 1 : Nat) := by
          rw [hix, if_neg (by rw [beq_iff_eq]; exact hm), hi]
          rfl
        have hc : Lib.count (b :: l) [0] = Lib.count l [0] := by
          rw [Lib.count_hit (by decide) h1, Lib.count_hit (by decide) hi]
          simp
        rw [hc, Lib.count_hit (by decide) hi, Nat.add_comm, Lib.replaceK_hit _ _ _ _ (i + 1) h1, Lib.replaceK_hit _ _ _ _ i hi]
        simp
theorem rep_eq (s : List UInt8) : Lib.replaceAll s [0] [0, 255] = esc0 s := by
  rw [Lib.replaceAll, Lib.replace, if_neg (by decide), Lib.replaceNum, if_pos (Or.inl (by decide)), repK_eq]
/-- What package bytealg's variable MaxLen is asked to be: a whole number. -/
def MaxOk (w : World) : Prop := ∃ m, w.cell? ⟨2, 0, none⟩ = some (.int .i64 m)
theorem MaxOk.below {w w' : World} (h : MaxOk w) (hb : Below w.heap.size w w') : MaxOk w' := by
  obtain ⟨m, h⟩ := h
  exact ⟨m, pw_cell_below hb h⟩
theorem repl_calls (s : ByteArray) (w : World) (hM : MaxOk w) (hs : s.size ≤ 100000) :
    Calls Tryz.prog 91 #[.string s, .string ⟨#[0]⟩, .string ⟨#[0, 255]⟩] w fun e w' => e = .returned (.string ⟨(esc0 s.data.toList).toArray⟩) ∧ Below w.heap.size w w' := by
  obtain ⟨m, hm⟩ := hM
  have h1 : (⟨#[0]⟩ : ByteArray).size = 1 := rfl
  have h2 : (⟨#[0, 255]⟩ : ByteArray).size = 2 := rfl
  have hc := Lib.countB_le ⟨#[0]⟩ (by rw [h1]; exact Nat.le_refl _) s.size s (Nat.le_refl _)
  have := Tryz.strings_ReplaceAll s ⟨#[0]⟩ ⟨#[0, 255]⟩ m w (by omega) hm (by rw [h1]; exact Nat.le_refl _) (by rw [h2]; omega)
  rw [← rep_eq]
  exact this
def ints (l : List UInt8) : List Int := l.map fun b => (b.toNat : Int)
theorem ints_append (a b : List UInt8) : ints (a ++ b) = ints a ++ ints b := List.map_append
theorem ints_length (a : List UInt8) : (ints a).length = a.length := List.length_map _
theorem bytesOf_ints (s : ByteArray) : bytesOf s = ints s.data.toList := rfl
/-- A label in a key. -/
def keyP (x : S130) : List UInt8 := x.f0.data.toList ++ [0] ++ esc0 x.f1.data.toList ++ [0, 1]
def keyB (l : List S130) : List UInt8 := l.flatMap keyP
def keyL (l : List S130) : List UInt8 × Int := if isSetL l then (keyB l, 0) else ([], 134)
theorem keyB_at (l : List S130) (k : Nat) (h : k < l.length) : keyB (l.take (k + 1)) = keyB (l.take k) ++ l[k].f0.data.toList ++ [0] ++ esc0 l[k].f1.data.toList ++ [0, 1] := by
  rw [List.take_succ_eq_append_getElem h, keyB, List.flatMap_append, keyB]
  simp [keyP]
theorem keyB_le (l : List S130) (h : ∀ x ∈ l, goodL x = true) : (keyB l).length ≤ l.length * 700 := by
  induction l with
  | nil => simp [keyB]
  | cons x l ih =>
    have h1 := ih (fun y hy => h y (List.mem_cons_of_mem _ hy))
    have h2 := goodL_sizes (h x List.mem_cons_self)
    have h3 := esc0_le x.f1.data.toList
    rw [data_length] at h3
    have e : keyB (x :: l) = keyP x ++ keyB l := by simp [keyB]
    rw [e, List.length_append, List.length_cons, Nat.add_mul, Nat.one_mul, keyP, List.length_append, List.length_append, List.length_append, data_length]
    simp
    omega

theorem cell_at {w : World} {g : Nat} {cs : Array Value} {t : TypeId} (h : w.heap[g]? = some (.cells cs t (0, 0))) (j : Nat) : w.cell? ⟨g, j, none⟩ = cs[j]? := by simp [World.cell?, h]
set_option maxHeartbeats 4000000 in
set_option maxRecDepth 100000 in
theorem key_calls (A0 : Option Addr) (c0 : Nat) (l : List S130) (w : World) (hr0 : Kd.C k130 w A0 l.length l) (hlen : l.length ≤ 1099511627776) (hM : MaxOk w) :
    Calls Tryz.prog 41 #[.slice A0 l.length c0] w fun e w' => ∃ v, e = .returned (.tuple #[v, .int .i64 (keyL l).2]) ∧ w'.ownsRow w.heap.size 5 1 v (keyL l).1.length (nums .u8 (ints (keyL l).1)) ∧ Below w.heap.size w w' := by
  have HR := Lib.hid hr0
  have HT := Lib.hid hM
  have C1 := Lib.hid (isSet_calls A0 c0 l w hr0 hlen)
  clear hr0 hM
  generalize hres : keyL l = res
  have HS := Lib.hid hres
  clear hres
  cases hset : isSetL l
  · have HE := Lib.hid (show res = ([], 134) by rw [← HS.out, keyL, hset]; rfl)
    rw [hset] at C1
    clear hset
    go_enter Tryz.func41, Tryz.ntmps41
    go_wp2_with fail
    refine C1.out.mono ?_
    rintro e w1 ⟨rfl, hb1⟩
    go_wp2
    go_ret2
    rw [HE.out]
    exact ⟨_, rfl, own_nil _ _ _ _, hb1⟩
  · have HE := Lib.hid (show res = (keyB l, 0) by rw [← HS.out, keyL, hset]; rfl)
    rw [hset] at C1
    have HSet := Lib.hid hset
    clear hset
    go_enter Tryz.func41, Tryz.ntmps41
    go_wp2_with fail
    refine C1.out.mono ?_
    rintro e w1 ⟨rfl, hb1⟩
    go_wp2_with fail
    go_loopw [4, 12] (fun v4 v wr => ∃ k : Nat, v = .int .i64 k ∧ k ≤ l.length ∧ Hid (wr.ownsRow w.heap.size 5 1 v4 (ints (keyB (l.take k))).length (nums .u8 (ints (keyB (l.take k))))) ∧ Below w.heap.size w wr) (fun _ v _ => l.length - (intOf v).toNat)
    case atStart => exact ⟨0, rfl, by omega, Lib.hid (own_nil _ _ _ _), hb1⟩
    case round =>
      obtain ⟨k, rfl, hk, hR, hbw⟩ := hrel
      by_cases hlt : k < l.length
      · obtain ⟨ad, rfl, h0, h1⟩ := at_N HR.out k hlt
        have h0' := pw_cell_below hbw h0
        have h1' := pw_cell_below hbw h1
        clear h0 h1
        have hgd := goodL_sizes ((isSetL_all HSet.out).2.1 l[k] (List.getElem_mem hlt))
        have hkl : (ints (keyB (l.take k))).length ≤ 16 * 700 := by
          have h1 := keyB_le (l.take k) (fun x hx => (isSetL_all HSet.out).2.1 x (List.mem_of_mem_take hx))
          have h2 := (isSetL_all HSet.out).1
          rw [List.length_take] at h1
          rw [ints_length]
          omega
        have hel : (⟨(esc0 l[k].f1.data.toList).toArray⟩ : ByteArray).size ≤ 512 := by
          have h3 := esc0_le l[k].f1.data.toList
          rw [data_length] at h3
          have h4 : (⟨(esc0 l[k].f1.data.toList).toArray⟩ : ByteArray).size = (esc0 l[k].f1.data.toList).length := by simp [ByteArray.size]
          omega
        have hkey := keyB_at l k hlt
        have hqi : bytesOf ⟨(esc0 l[k].f1.data.toList).toArray⟩ = ints (esc0 l[k].f1.data.toList) := by rw [bytesOf_ints]
        have R1 := Lib.hid (show ∀ W : World, MaxOk W → _ from fun W h => repl_calls l[k].f1 W h (by omega))
        have HQI := Lib.hid hqi
        have HKEY := Lib.hid hkey
        clear hqi hkey
        have hbox : (wr.alloc (.cells #[.string l[k].f0, .string l[k].f1] 130)).cell? ⟨wr.heap.size, 1, none⟩ = some (.string l[k].f1) := by unfold World.cell?; rw [heap_alloc_new]; rfl
        have hba := hbw.alloc hbw.size (.cells #[.string l[k].f0, .string l[k].f1] 130)
        have hoa := Lib.hid (hR.out.alloc (.cells #[.string l[k].f0, .string l[k].f1] 130))
        have HGB := Lib.hid (show (wr.alloc (.cells #[.string l[k].f0, .string l[k].f1] 130)).heap[wr.heap.size]? = some (.cells #[.string l[k].f0, .string l[k].f1] 130 (0, 0)) from heap_alloc_new _ _)
        generalize hks : ints (keyB (l.take k)) = ks at *
        have hne : some wr.heap.size ≠ u4.ownBlock := own_ne hoa.out HGB.out (by decide)
        go_wp2_with (first
          | (at_builtin; refine print_append_str w.heap.size rfl (.tmp 16) (.tmp 18) 93 9 5 rfl Tryz.underlying93 Tryz.underlying9 info5 u4 ks l[k].f0 rfl rfl hoa.out hba hba.size ?aL ?_; (case aL => omega); rintro v1 w1 ho1 hb1 hg1; have HG1 := (hg1.block wr.heap.size (by simp) hne).trans HGB.out; have hne1 := own_ne ho1 HG1 (by decide))
          | (at_builtin; refine print_append_num w.heap.size rfl (.tmp 19) (.tmp 20) 93 5 .u8 1 rfl Tryz.underlying93 info5 (by omega) v1 (ks ++ bytesOf l[k].f0) 0 rfl rfl ho1 hb1 hb1.size ?aL ?_; (case aL => rw [List.length_append, bytesOf_length]; omega); rintro v2 w2 ho2 hb2 hg2 hat2; have HG2 := (hg2.block wr.heap.size (Array.getElem?_eq_some_iff.1 HG1).1 hne1).trans HG1; have hc2 := cell_at HG2 1)
          | (go_at_call 91; (with_reducible refine (R1.out _ (MaxOk.below HT.out hb2)).mono ?_); rintro e w3 ⟨rfl, hb3⟩; have ho3 := pw_own_below ho2 hb3; have hbw3 := hb2.trans (hb3.mono hb2.size))
          | (at_builtin; refine print_append_str w.heap.size rfl (.tmp 22) (.tmp 25) 93 9 5 rfl Tryz.underlying93 Tryz.underlying9 info5 v2 (ks ++ bytesOf l[k].f0 ++ [0]) ⟨(esc0 l[k].f1.data.toList).toArray⟩ rfl rfl ho3 hbw3 hbw3.size ?aL ?_; (case aL => rw [List.length_append, List.length_append, bytesOf_length, List.length_singleton]; omega); rintro v4 w4 ho4 hb4 hg4)
          | (at_builtin; refine print_append_row (W := w4.alloc (.cells #[.int .u8 0, .int .u8 1] 5)) w.heap.size rfl (.tmp 27) (.tmp 28) 93 5 .u8 1 rfl Tryz.underlying93 info5 (by omega) v4 (ks ++ bytesOf l[k].f0 ++ [0] ++ bytesOf ⟨(esc0 l[k].f1.data.toList).toArray⟩) [0, 1] (some ⟨w4.heap.size, 0, none⟩) 2 2 rfl rfl (ho4.alloc _) (own_reads' (own_lit w4 w.heap.size 5 .u8 [0, 1] hb4.size (by decide))) (hb4.alloc hb4.size _) (hb4.alloc hb4.size _).size ?aL ?_; (case aL => rw [List.length_append, List.length_append, List.length_append, bytesOf_length, bytesOf_length, List.length_singleton]; omega); rintro v5 w5 ho5 hb5 hg5 hat5))
        go_roundw
        case rel =>
          refine ⟨k + 1, by go_num, by omega, Lib.hid ?_, hb5⟩
          have e : ints (keyB (l.take (k + 1))) = ks ++ bytesOf l[k].f0 ++ [0] ++ bytesOf ⟨(esc0 l[k].f1.data.toList).toArray⟩ ++ [0, 1] := by
            rw [HKEY.out, ints_append, ints_append, ints_append, ints_append, hks, HQI.out, bytesOf_ints]
            rfl
          rw [e]
          exact ho5
        case measure => simp [intOf]; omega
      · have htk : l.take k = l := List.take_of_length_le (by omega)
        rw [htk] at hR
        go_wp2
        go_ret2
        rw [HE.out]
        exact ⟨_, rfl, by rw [← ints_length]; exact hR.out, hbw⟩
end
section
open Go.RowKit Go.Proofs.YtkanfffbdegfoaaGreatDoorW.PrintWords Go.Proofs.YtkanfffbdegfoaaGreatDoorW.PrintLast Go.Proofs.YtkanfffbdegfoaaGreatDoorW.PrintMore

/-- The block of a reader: its text, where it stands. -/
def Rd (b : Nat) (s : ByteArray) (i : Nat) (w : World) : Prop := w.heap[b]? = some (.cells #[.string s, .int .i64 i] 127 (0, 0))
theorem Rd.c0 {b i : Nat} {s : ByteArray} {w : World} (h : Rd b s i w) : w.cell? ⟨b, 0, none⟩ = some (.string s) := cell_at h 0
theorem Rd.c1 {b i : Nat} {s : ByteArray} {w : World} (h : Rd b s i w) : w.cell? ⟨b, 1, none⟩ = some (.int .i64 i) := cell_at h 1
theorem Rd.lt {b i : Nat} {s : ByteArray} {w : World} (h : Rd b s i w) : b < w.heap.size := (Array.getElem?_eq_some_iff.1 h).1
theorem Rd.set {b i : Nat} {s : ByteArray} {w : World} (h : Rd b s i w) (j : Nat) : Rd b s j (w.setCell ⟨b, 1, none⟩ (.int .i64 j)) := by
  unfold Rd at *
  simp [World.setCell, Array.getElem?_modify, h]
theorem Rd.fr {b i : Nat} {s : ByteArray} {w : World} (h : Rd b s i w) (j : Nat) : w.frozen? ⟨b, j, none⟩ = false := by simp [World.frozen?, show w.heap[b]? = _ from h]
theorem grown_set (w : World) (b j : Nat) (u : Value) : w.grownBy (w.setCell ⟨b, j, none⟩ u) (some b) :=
  ⟨rfl, rfl, rfl, by simp [World.setCell], fun k _ hne => Below.heap_setCell w ⟨b, j, none⟩ u k (fun e => hne (by rw [e]))⟩
theorem grown_trans {w w1 w2 : World} {row : Option Nat} (h1 : w.grownBy w1 row) (h2 : w1.grownBy w2 row) : w.grownBy w2 row :=
  ⟨h2.os.trans h1.os, h2.tape.trans h1.tape, h2.output.trans h1.output, Nat.le_trans h1.size h2.size, fun k hk hne => (h2.block k (Nat.lt_of_lt_of_le hk h1.size) hne).trans (h1.block k hk hne)⟩
theorem grown_refl (w : World) (row : Option Nat) : w.grownBy w row := ⟨rfl, rfl, rfl, Nat.le_refl _, fun _ _ _ => rfl⟩
theorem grown_drewN (w : World) (n : Nat) (row : Option Nat) : w.grownBy (w.drewN n) row := ⟨rfl, rfl, rfl, Nat.le_refl _, fun _ _ _ => rfl⟩
theorem grown_of_below {w w' : World} (h : Below w.heap.size w w') (row : Option Nat) : w.grownBy w' row := ⟨h.os, h.tape, h.output, h.size, fun k hk _ => h.block k hk⟩
theorem Rd.below {b i : Nat} {s : ByteArray} {w w' : World} (h : Rd b s i w) (hb : Below w.heap.size w w') : Rd b s i w' := (hb.block b h.lt).trans h
/-- Where a reader stands. -/
def atOf (w : World) (b : Nat) : Nat := match w.cell? ⟨b, 1, none⟩ with | some v => (intOf v).toNat | none => 0
theorem Rd.pos {b i : Nat} {s : ByteArray} {w : World} (h : Rd b s i w) : atOf w b = i := by simp [atOf, h.c1, intOf]

/-- Behind blanks. -/
def skipB (s : ByteArray) : Nat → Nat → Nat
  | 0, i => i
  | b + 1, i => if h : i < s.size then (if s[i].toNat = 32 then skipB s b (i + 1) else i) else i
def skipF (s : ByteArray) (i : Nat) : Nat := skipB s (s.size - i) i
theorem skipF_go (s : ByteArray) (i : Nat) (h : i < s.size) (h2 : s[i].toNat = 32) : skipF s i = skipF s (i + 1) := by
  have e : s.size - i = (s.size - (i + 1)) + 1 := by omega
  rw [skipF, e, skipB, dif_pos h, if_pos h2, skipF]
theorem skipF_stop (s : ByteArray) (i : Nat) (h : i < s.size) (h2 : ¬ s[i].toNat = 32) : skipF s i = i := by
  have e : s.size - i = (s.size - (i + 1)) + 1 := by omega
  rw [skipF, e, skipB, dif_pos h, if_neg h2]
theorem skipF_end (s : ByteArray) (i : Nat) (h : ¬ i < s.size) : skipF s i = i := by
  have e : s.size - i = 0 := by omega
  rw [skipF, e, skipB]
theorem skipF_le (s : ByteArray) (i : Nat) (h : i ≤ s.size) : i ≤ skipF s i ∧ skipF s i ≤ s.size := by
  by_cases hi : i < s.size
  · by_cases h32 : s[i].toNat = 32
    · have := skipF_le s (i + 1) hi
      rw [skipF_go s i hi h32]
      omega
    · rw [skipF_stop s i hi h32]
      omega
  · rw [skipF_end s i hi]
    omega
termination_by s.size - i

set_option maxHeartbeats 4000000 in
set_option maxRecDepth 100000 in
theorem blanks_calls (b : Nat) (s : ByteArray) (i : Nat) (w : World) (hr : Rd b s i w) (hi : i ≤ s.size) (hs : s.size ≤ 1099511627776) :
    Calls Tryz.prog 109 #[.pointer (some ⟨b, 0, none⟩)] w fun e w' => e = .returned (.tuple #[]) ∧ Rd b s (skipF s i) w' ∧ w.grownBy w' (some b) := by
  have HR := Lib.hid hr
  clear hr
  go_enter Tryz.func109, Tryz.ntmps109
  go_wp2_with fail
  go_loopw [2] (fun _ wr => ∃ k : Nat, k ≤ s.size ∧ Hid (skipF s k = skipF s i) ∧ Hid (Rd b s k wr) ∧ Hid (w.grownBy wr (some b))) (fun _ wr => s.size - atOf wr b)
  case atStart => exact ⟨i, hi, Lib.hid rfl, HR, Lib.hid (grown_refl _ _)⟩
  case round =>
    obtain ⟨k, hk, hsk, hrd, hg⟩ := hrel
    have hc0 := hrd.out.c0
    have hc1 := hrd.out.c1
    have hd0 : ∀ n, (wr.drewN n).cell? ⟨b, 0, none⟩ = some (.string s) := fun n => hc0
    have hd1 : ∀ n, (wr.drewN n).cell? ⟨b, 1, none⟩ = some (.int .i64 k) := fun n => hc1
    have hf1 : ∀ n, (wr.drewN n).frozen? ⟨b, 1, none⟩ = false := fun n => hrd.out.fr 1
    clear hc0 hc1
    by_cases hlt : k < s.size
    · have hltz : (k : Int) < (s.size : Int) := by omega
      have hkz : (0 : Int) ≤ (k : Int) := by omega
      have hdk : decide ((k : Int) < (s.size : Int)) = true := decide_eq_true hltz
      by_cases h32 : s[k].toNat = 32
      · have h32z : ((s[k].toNat : Int) == 32) = true := by simp [h32]
        have HG := Lib.hid (skipF_go s k hlt h32)
        clear h32
        go_upto_region 0 with (fail)
        go_quiet (fail)
        go_wp2_with fail
        have hrd' : Rd b s (k + 1) ((wr.drewN nq).setCell ⟨b, 1, none⟩ (.int .i64 ((k : Int) + 1))) := Rd.set (w := wr.drewN nq) hrd.out (k + 1)
        have hg' : w.grownBy ((wr.drewN nq).setCell ⟨b, 1, none⟩ (.int .i64 ((k : Int) + 1))) (some b) := grown_trans (grown_trans hg.out (grown_drewN _ _ _)) (grown_set _ _ _ _)
        refine ⟨⟨k + 1, by omega, Lib.hid (HG.out.symm.trans hsk.out), Lib.hid hrd', Lib.hid hg'⟩, ?_⟩
        have e1 := hrd'.pos
        have e2 := hrd.out.pos
        omega
      · have h32z : ((s[k].toNat : Int) == 32) = false := by simp; omega
        have HE := Lib.hid (skipF_stop s k hlt h32)
        clear h32
        go_upto_region 0 with (fail)
        go_quiet (fail)
        go_wp2_with fail
        go_end0
        refine ⟨rfl, ?_, grown_trans hg.out (grown_drewN _ _ _)⟩
        rw [← hsk.out, HE.out]
        exact hrd.out
    · have hdk : decide ((k : Int) < (s.size : Int)) = false := decide_eq_false (by omega)
      have HE := Lib.hid (skipF_end s k hlt)
      go_upto_region 0 with (fail)
      go_quiet (fail)
      go_wp2_with fail
      go_end0
      refine ⟨rfl, ?_, grown_trans hg.out (grown_drewN _ _ _)⟩
      rw [← hsk.out, HE.out]
      exact hrd.out

/-- A byte, with blanks ahead of it and behind. -/
def oneF (s : ByteArray) (c i : Nat) : Bool × Nat :=
  if h : skipF s i < s.size then (if s[skipF s i].toNat = c then (true, skipF s (skipF s i + 1)) else (false, skipF s i)) else (false, skipF s i)
theorem oneF_le (s : ByteArray) (c i : Nat) (h : i ≤ s.size) : i ≤ (oneF s c i).2 ∧ (oneF s c i).2 ≤ s.size := by
  have h1 := skipF_le s i h
  unfold oneF
  split
  · rename_i h2
    split
    · have := skipF_le s (skipF s i + 1) h2
      simp only
      omega
    · exact h1
  · exact h1
theorem oneF_more (s : ByteArray) (c i : Nat) (h : i ≤ s.size) (ho : (oneF s c i).1 = true) : i < (oneF s c i).2 := by
  have h1 := skipF_le s i h
  unfold oneF at *
  split at ho
  · rename_i h2
    split at ho
    · rename_i h3
      have := skipF_le s (skipF s i + 1) h2
      rw [dif_pos h2, if_pos h3]
      simp only
      omega
    · cases ho
  · cases ho

set_option maxHeartbeats 4000000 in
set_option maxRecDepth 100000 in
theorem one_calls (b : Nat) (s : ByteArray) (c i : Nat) (w : World) (hr : Rd b s i w) (hi : i ≤ s.size) (hs : s.size ≤ 1099511627776) :
    Calls Tryz.prog 65 #[.pointer (some ⟨b, 0, none⟩), .int .u8 c] w fun e w' => e = .returned (.bool (oneF s c i).1) ∧ Rd b s (oneF s c i).2 w' ∧ w.grownBy w' (some b) := by
  generalize hres : oneF s c i = res
  have HS := Lib.hid hres
  clear hres
  have hsl := skipF_le s i hi
  have B1 := Lib.hid (blanks_calls b s i w hr hi hs)
  clear hr
  generalize hj : skipF s i = j at *
  go_enter Tryz.func65, Tryz.ntmps65
  go_wp2_with fail
  refine B1.out.mono ?_
  rintro e w1 ⟨rfl, hrd, hg⟩
  have hd0 : ∀ n, (w1.drewN n).cell? ⟨b, 0, none⟩ = some (.string s) := fun n => hrd.c0
  have hd1 : ∀ n, (w1.drewN n).cell? ⟨b, 1, none⟩ = some (.int .i64 j) := fun n => hrd.c1
  have hf1 : ∀ n, (w1.drewN n).frozen? ⟨b, 1, none⟩ = false := fun n => hrd.fr 1
  have HRD := Lib.hid hrd
  have HG := Lib.hid hg
  clear hrd hg
  by_cases hlt : j < s.size
  · have hltz : (j : Int) < (s.size : Int) := by omega
    have hkz : (0 : Int) ≤ (j : Int) := by omega
    have hdk : decide ((s.size : Int) ≤ (j : Int)) = false := decide_eq_false (by omega)
    have hdk2 : decide (s.size ≤ j) = false := decide_eq_false (by omega)
    by_cases hc : s[j].toNat = c
    · have hcz : ((s[j].toNat : Int) != (c : Int)) = false := by simp [hc]
      have HE := Lib.hid (show res = (true, skipF s (j + 1)) by
        subst hj
        rw [← HS.out, oneF, dif_pos hlt, if_pos hc])
      have HRD' := Lib.hid (fun n => Rd.set (w := w1.drewN n) HRD.out (j + 1))
      have B2 := Lib.hid (fun n => blanks_calls b s (j + 1) _ (HRD'.out n) (by omega) hs)
      clear hc
      go_upto_region 2 with (fail)
      go_quiet (fail)
      go_wp2_with fail
      refine (B2.out _).mono ?_
      rintro e w2 ⟨rfl, hrd2, hg2⟩
      go_wp2
      go_ret
      rw [HE.out]
      exact ⟨rfl, hrd2, grown_trans (grown_trans (grown_trans HG.out (grown_drewN _ _ _)) (grown_set _ _ _ _)) hg2⟩
    · have hcz : ((s[j].toNat : Int) != (c : Int)) = true := by simp; omega
      have HE := Lib.hid (show res = (false, j) by
        subst hj
        rw [← HS.out, oneF, dif_pos hlt, if_neg hc])
      clear hc
      go_upto_region 2 with (fail)
      go_quiet (fail)
      go_wp2_with fail
      go_ret
      rw [HE.out]
      exact ⟨rfl, HRD.out, grown_trans HG.out (grown_drewN _ _ _)⟩
  · have hdk : decide ((s.size : Int) ≤ (j : Int)) = true := decide_eq_true (by omega)
    have hdk2 : decide (s.size ≤ j) = true := decide_eq_true (by omega)
    have HE := Lib.hid (show res = (false, j) by
      subst hj
      rw [← HS.out, oneF, dif_neg hlt])
    go_upto_region 2 with (fail)
    go_quiet (fail)
    go_wp2_with fail
    go_ret
    rw [HE.out]
    exact ⟨rfl, HRD.out, grown_trans HG.out (grown_drewN _ _ _)⟩
end
end Go.Proofs.YtkanfffbdegfoaaGreatDoor.PD
