/- fathomlaw13.LabelLimits: it returns true; what was there is as it was. No condition but the environment's (the tables). -/
import Derived.Test.YtkanfffbdegfoaaDoorKU
import Derived.Test.YtkanfffbdegfoaaDoorLabT
import Derived.Test.YtkanfffbdegfoaaDoorPDx11
namespace Go.Proofs.YtkanfffbdegfoaaDoor.PD
set_option linter.unusedVariables false
set_option linter.unusedSimpArgs false
open Go.RowKit Go.Proofs.YtkanfffbdegfoaaDoorW.PrintWords Go.Proofs.YtkanfffbdegfoaaDoorW.PrintLast Go.Proofs.YtkanfffbdegfoaaDoorW.PrintMore

/-- A text of so many of one byte. -/
def repB (c : Int) (n : Nat) : ByteArray := strOfNums (List.replicate n c)
theorem rep_loop (c : Int) (n : Nat) (hn : n ≤ 1000) : ∀ (d i k : Nat), n - i ≤ d → i ≤ n → d + 1 ≤ k → fathomlaw13_repeated.l0 k c (n : Int) (List.replicate i c ++ List.replicate (n - i) 0) (i : Int) = some (repB c n)
  | d, i, k, hd, hi, hk => by
    obtain ⟨k, rfl⟩ : ∃ m, k = m + 1 := ⟨k - 1, by omega⟩
    rw [fathomlaw13_repeated.l0]
    by_cases h : i < n
    · obtain ⟨d, rfl⟩ : ∃ m, d = m + 1 := ⟨d - 1, by omega⟩
      rw [if_pos (by omega), if_pos (by omega), if_pos (by rw [List.length_append, List.length_replicate, List.length_replicate]; omega)]
      have e : wrap64 ((i : Int) + 1) = ((i + 1 : Nat) : Int) := by unfold wrap64; omega
      have e2 : (List.replicate i c ++ List.replicate (n - i) (0 : Int)).set (i : Int).toNat c = List.replicate (i + 1) c ++ List.replicate (n - (i + 1)) 0 := by
        rw [Int.toNat_natCast, List.set_append, if_neg (by rw [List.length_replicate]; omega), List.length_replicate, Nat.sub_self, show n - i = (n - (i + 1)) + 1 by omega, List.replicate_succ, List.set_cons_zero, List.replicate_succ', List.append_assoc]
        rfl
      rw [e, e2]
      exact rep_loop c n hn d (i + 1) k (by omega) (by omega) (by omega)
    · obtain rfl : i = n := by omega
      rw [if_neg (by omega), Nat.sub_self]
      simp [repB]
theorem rep_calls (c : Int) (n : Nat) (w : World) (hn : n ≤ 1000) : Calls Tryd.prog 28 #[.int .u8 c, .int .i64 n] w fun e w' => e = .returned (.string (repB c n)) ∧ Below w.heap.size w w' := by
  refine fathomlaw13_repeated.calls 1002 c n _ w ?_
  rw [fathomlaw13_repeated.f, if_pos (by omega), if_pos (by omega), Int.toNat_natCast]
  have := rep_loop c n hn n 0 1002 (by omega) (by omega) (by omega)
  simpa using this
theorem repB_size (c : Int) (n : Nat) : (repB c n).size = n := by
  rw [repB, strOfNums]
  simp [ByteArray.size]

/-- Set of one label: the error's number. -/
def oneE (nm v : ByteArray) : Int := if nameB nm = false then 130 else if valB v = false then 131 else 0
theorem one_set (nm v : ByteArray) : (setL [⟨nm, v⟩]).2 = oneE nm v := by
  have h1 : setE [] [(⟨nm, v⟩ : S27)] = oneE nm v := by
    rw [setE, oneE]
    rfl
  have h2 : (full [(⟨nm, v⟩ : S27)]).length ≤ 1 := full_le _
  unfold setL
  rw [h1]
  by_cases h : oneE nm v ≠ 0
  · rw [if_pos h]
  · rw [if_neg h, if_neg (by omega)]
    simp only [ne_eq, Classical.not_not] at h
    exact h.symm
set_option maxHeartbeats 2000000 in
set_option maxRecDepth 100000 in
theorem one_calls27 (nm v : ByteArray) (w : World) : Calls Tryd.prog 27 #[.string nm, .string v] w fun e w' => e = .returned (.int .i64 (oneE nm v)) ∧ Below w.heap.size w w' := by
  obtain ⟨y, hy⟩ : ∃ y, y = [(⟨nm, v⟩ : S27)] := ⟨_, rfl⟩
  have HE := Lib.hid (show (setL y).2 = oneE nm v by rw [hy]; exact one_set nm v)
  have HL := Lib.hid (show y.length ≤ 1 by rw [hy]; exact Nat.le_refl _)
  have HY := Lib.hid hy
  clear hy
  go_enter Tryd.func27, Tryd.ntmps27
  go_wp2_with ((with_reducible refine gate_dst (N := 11) rfl ?_); refine Kd.R_lit k27 _ 27 ?hg (N := 11) ?hd (xs := ([(⟨nm, v⟩ : S27)] : List (S27))) (inner := [.string nm, .string v]) (ok := fun _ => True) (okp := fun _ => True) ?hr ?hp (fun _ hk => hk) trivial (Below.refl _ _) (Nat.le_refl _) (by simp) ?_; (case hd => rfl); (case hg => rfl); (case hr => first | (go_simp; done) | (go_simp; rfl)); (case hp => exact (Reps.c2 (show Kd.M k27 _ _ _ (⟨nm, v⟩ : S27) [.string nm, .string v] from (k27_mkM _ _ _ (⟨nm, v⟩ : S27) )) (Reps.none _ _))); intro v1 w1 ho1 hb1 hg1 hnew1; clear hg1 hnew1; rw [← HY.out] at ho1; obtain ⟨A1, c1, eo1⟩ := Kd.R_slice ho1; subst eo1; have HO1 := Lib.hid ho1; clear ho1)
  have C := set_calls A1 c1 y w1 (Kd.R_reads' HO1.out).2.2 (Kd.R_reads' HO1.out).2.1 (by have := HL.out; omega)
  rw [HE.out] at C
  refine C.mono ?_
  clear C
  rintro e w2 ⟨v2, rfl, hR2, hb2⟩
  have hw2 := hb1.trans (hb2.mono hb1.size)
  obtain ⟨A2, c2, rfl⟩ := Kd.R_slice hR2
  clear hR2 hb1 hb2
  go_wp2_with (go_at_call 12; (with_reducible refine (num_calls _ _).mono ?_); rintro en wx ⟨rfl, hwx⟩; subst wx)
  go_ret
  exact ⟨rfl, hw2⟩

/-! ### the closed facts -/
theorem n64 : oneE (repB 97 64) ⟨#[120]⟩ = 0 := by kernel_rfl
theorem n65 : oneE (repB 97 65) ⟨#[120]⟩ = 130 := by kernel_rfl
theorem n0 : oneE ⟨#[]⟩ ⟨#[120]⟩ = 130 := by kernel_rfl
theorem v256 : oneE ⟨#[97]⟩ (repB 120 256) = 0 := by kernel_rfl
theorem v257 : oneE ⟨#[97]⟩ (repB 120 257) = 131 := by kernel_rfl
theorem v0 : oneE ⟨#[95, 57, 90]⟩ ⟨#[]⟩ = 0 := by kernel_rfl
def namesL : List ByteArray := [⟨#[57]⟩, ⟨#[97, 45, 98]⟩, ⟨#[97, 32, 98]⟩, ⟨#[0]⟩, ⟨#[97, 195]⟩, ⟨#[195, 169]⟩, ⟨#[123]⟩, ⟨#[97, 46]⟩]
def badL : List ByteArray := [⟨#[255]⟩, ⟨#[97, 128]⟩, ⟨#[192, 128]⟩, ⟨#[195]⟩, ⟨#[237, 160, 128]⟩, ⟨#[244, 144, 128, 128]⟩, ⟨#[224, 128, 128]⟩, ⟨#[248, 136, 128, 128, 128]⟩, ⟨#[195, 40]⟩]
def goodL6 : List ByteArray := [⟨#[0]⟩, ⟨#[239, 191, 189]⟩, ⟨#[244, 143, 191, 191]⟩, ⟨#[237, 159, 191]⟩, ⟨#[194, 128]⟩, ⟨#[34, 92, 10, 127]⟩]
theorem all_at {p : ByteArray → Bool} {l : List ByteArray} (h : l.all p = true) (i : Nat) (hi : i < l.length) : p l[i] = true := List.all_eq_true.1 h _ (List.getElem_mem hi)
theorem names_ok : ∀ i (h : i < namesL.length), oneE namesL[i] ⟨#[120]⟩ = 130 := fun i h => by
  have := all_at (p := fun s => decide (oneE s ⟨#[120]⟩ = 130)) (l := namesL) (by kernel_rfl) i h
  exact of_decide_eq_true this
theorem bad_ok : ∀ i (h : i < badL.length), oneE ⟨#[97]⟩ badL[i] = 131 := fun i h => by
  have := all_at (p := fun s => decide (oneE ⟨#[97]⟩ s = 131)) (l := badL) (by kernel_rfl) i h
  exact of_decide_eq_true this
theorem good_ok : ∀ i (h : i < goodL6.length), oneE ⟨#[97]⟩ goodL6[i] = 0 := fun i h => by
  have := all_at (p := fun s => decide (oneE ⟨#[97]⟩ s = 0)) (l := goodL6) (by kernel_rfl) i h
  exact of_decide_eq_true this
/-- Seventeen labels. -/
def labI (i : Nat) : S27 := ⟨(⟨#[97]⟩ : ByteArray) ++ repB 98 i, ⟨#[120]⟩⟩
def labsL : List S27 := (List.range 17).map labI
theorem labs_fit : fitL labsL := by
  have h1 : (labsL.all fun x => nameB x.f0 && valB x.f1) = true := by kernel_rfl
  have h2 : (decide (labsL.map nmL).Nodup) = true := by kernel_rfl
  exact ⟨fun x hx => by simpa using List.all_eq_true.1 h1 x hx, of_decide_eq_true h2⟩
theorem fit_drop {l : List S27} (h : fitL l) (k : Nat) : fitL (l.drop k) :=
  ⟨fun x hx => h.1 x (List.mem_of_mem_drop hx), by rw [List.map_drop]; exact h.2.sublist (List.drop_sublist _ _)⟩
theorem labs_full : full labsL = labsL := by kernel_rfl
theorem labs_full1 : full (labsL.drop 1) = labsL.drop 1 := by kernel_rfl
theorem labs_many : (setL labsL).2 = 133 := by
  unfold setL
  rw [if_neg (by simp [(setE_fit labsL).2 labs_fit]), labs_full, if_pos (by decide)]
theorem labs_one : (setL (labsL.drop 1)).2 = 0 ∧ (setL (labsL.drop 1)).1.length = 16 := by
  rw [set_of_fit (fit_drop labs_fit 1) (by rw [labs_full1]; decide)]
  exact ⟨rfl, by rw [srtL_len, labs_full1]; rfl⟩
theorem labs_noset : isSetL labsL = false := by kernel_rfl
theorem labs_text : textL labsL = (⟨#[]⟩, 134) := by rw [textL, labs_noset]; rfl
theorem labs_key : keyL labsL = ([], 134) := by rw [keyL, labs_noset]; rfl
def wordsN (n : Nat) : List ByteArray := List.replicate n ⟨#[]⟩
theorem words65 : checkV ⟨4, ⟨#[97]⟩, ⟨#[]⟩, wordsN 65⟩ = 135 := by kernel_rfl
theorem words64 : checkV ⟨4, ⟨#[97]⟩, ⟨#[]⟩, wordsN 64⟩ = 0 := by kernel_rfl
theorem words_C {W : World} {g : Nat} (h : W.heap[g]? = some (.cells (Array.replicate 65 (.string ⟨#[]⟩)) 9 (0, 0))) (n : Nat) (hn : n ≤ 65) : Kd.C Kd.string W (some ⟨g, 0, none⟩) (wordsN n).length (wordsN n) := by
  refine ⟨rfl, by rw [wordsN, List.length_replicate]; omega, fun _ => ⟨_, rfl, fun j p hj => ?_⟩⟩
  have hjn : j < n := by
    have := (List.getElem?_eq_some_iff.1 hj).1
    rwa [wordsN, List.length_replicate] at this
  have hp : p = ⟨#[]⟩ := by
    rw [wordsN, List.getElem?_replicate, if_pos hjn] at hj
    exact (Option.some.inj hj).symm
  subst hp
  refine ⟨[.string ⟨#[]⟩], rfl, rfl, fun i u hi => ?_⟩
  cases i with
  | zero =>
    have : u = .string ⟨#[]⟩ := by simpa using hi.symm
    subst this
    have h2 : W.cell? ⟨g, j, none⟩ = some (.string ⟨#[]⟩) := by
      have hj65 : j < 65 := by omega
      simp [World.cell?, h, hj65]
    have e : (⟨g, 0, none⟩ : Addr).add (j * 1 + 0) = ⟨g, j, none⟩ := by
      unfold Addr.add
      congr 1
      simp
      exact fun h => h.symm
    show W.cell? ((⟨g, 0, none⟩ : Addr).add (j * 1 + 0)) = _
    rw [e]
    exact h2
  | succ i => simp at hi
theorem check_words {W : World} {g : Nat} (h : W.heap[g]? = some (.cells (Array.replicate 65 (.string ⟨#[]⟩)) 9 (0, 0))) :
    Calls Tryd.prog 25 #[.agg #[.int .i64 4, .string ⟨#[97]⟩, .string ⟨#[]⟩, .slice (some ⟨g, 0, none⟩) 65 65]] W (fun e w' => e = .returned (.int .i64 135) ∧ Below W.heap.size W w') ∧
    Calls Tryd.prog 25 #[.agg #[.int .i64 4, .string ⟨#[97]⟩, .string ⟨#[]⟩, .slice (some ⟨g, 0, none⟩) 64 65]] W (fun e w' => e = .returned (.int .i64 0) ∧ Below W.heap.size W w') := by
  have h1 := check_calls ⟨4, ⟨#[97]⟩, ⟨#[]⟩, wordsN 65⟩ (some ⟨g, 0, none⟩) 65 W (words_C h 65 (Nat.le_refl _)) (by decide)
  have h2 := check_calls ⟨4, ⟨#[97]⟩, ⟨#[]⟩, wordsN 64⟩ (some ⟨g, 0, none⟩) 65 W (words_C h 64 (by decide)) (by decide)
  rw [words65] at h1
  rw [words64] at h2
  exact ⟨h1, h2⟩

set_option maxHeartbeats 20000000 in
set_option maxRecDepth 100000 in
theorem labelLimits_walk (w : World) (hE : WE w) :
    Calls Tryd.prog 8 #[] w fun e w' => e = .returned (.bool true) ∧ Below w.heap.size w w' := by
  have HE := Lib.hid hE
  clear hE
  have ONE := fun (nm v : ByteArray) (r : Int) (h : oneE nm v = r) => Lib.hid (show ∀ W : World, Calls Tryd.prog 27 #[.string nm, .string v] W fun e w' => e = .returned (.int .i64 r) ∧ Below W.heap.size W w' from fun W => by have := one_calls27 nm v W; rwa [h] at this)
  have R1 := Lib.hid (show ∀ W : World, Calls Tryd.prog 28 #[.int .u8 97, .int .i64 64] W fun e w' => e = .returned (.string (repB 97 64)) ∧ Below W.heap.size W w' from fun W => rep_calls 97 64 W (by decide))
  have R2 := Lib.hid (show ∀ W : World, Calls Tryd.prog 28 #[.int .u8 97, .int .i64 65] W fun e w' => e = .returned (.string (repB 97 65)) ∧ Below W.heap.size W w' from fun W => rep_calls 97 65 W (by decide))
  have R3 := Lib.hid (show ∀ W : World, Calls Tryd.prog 28 #[.int .u8 120, .int .i64 256] W fun e w' => e = .returned (.string (repB 120 256)) ∧ Below W.heap.size W w' from fun W => rep_calls 120 256 W (by decide))
  have R4 := Lib.hid (show ∀ W : World, Calls Tryd.prog 28 #[.int .u8 120, .int .i64 257] W fun e w' => e = .returned (.string (repB 120 257)) ∧ Below W.heap.size W w' from fun W => rep_calls 120 257 W (by decide))
  have O1 := ONE _ _ _ n64
  have O2 := ONE _ _ _ n65
  have O3 := ONE _ _ _ n0
  have O4 := ONE _ _ _ v256
  have O5 := ONE _ _ _ v257
  have O6 := ONE _ _ _ v0
  have ONE2 := Lib.hid ONE
  clear ONE
  generalize repB 97 64 = r1 at *
  generalize repB 97 65 = r2 at *
  generalize repB 120 256 = r3 at *
  generalize repB 120 257 = r4 at *
  have W0 := Lib.hid (works_calls w HE.out)
  go_enter Tryd.func8, Tryd.ntmps8
  go_wp2_with fail
  refine W0.out.mono ?_
  rintro en w0 ⟨rfl, hz0⟩
  clear W0
  go_wp2_with fail
  refine (R1.out _).mono ?_
  clear R1
  rintro en w1 ⟨rfl, hy1⟩
  have hz1 := hz0.trans (hy1.mono hz0.size)
  clear hy1 hz0
  go_wp2_with fail
  refine (O1.out _).mono ?_
  clear O1
  rintro en w2 ⟨rfl, hy2⟩
  have hz2 := hz1.trans (hy2.mono hz1.size)
  clear hy2 hz1
  go_wp2_with fail
  refine (R2.out _).mono ?_
  clear R2
  rintro en w3 ⟨rfl, hy3⟩
  have hz3 := hz2.trans (hy3.mono hz2.size)
  clear hy3 hz2
  go_wp2_with fail
  refine (O2.out _).mono ?_
  clear O2
  rintro en w4 ⟨rfl, hy4⟩
  have hz4 := hz3.trans (hy4.mono hz3.size)
  clear hy4 hz3
  go_wp2_with fail
  refine (O3.out _).mono ?_
  clear O3
  rintro en w5 ⟨rfl, hy5⟩
  have hz5 := hz4.trans (hy5.mono hz4.size)
  clear hy5 hz4
  go_wp2_with fail
  refine (R3.out _).mono ?_
  clear R3
  rintro en w6 ⟨rfl, hy6⟩
  have hz6 := hz5.trans (hy6.mono hz5.size)
  clear hy6 hz5
  go_wp2_with fail
  refine (O4.out _).mono ?_
  clear O4
  rintro en w7 ⟨rfl, hy7⟩
  have hz7 := hz6.trans (hy7.mono hz6.size)
  clear hy7 hz6
  go_wp2_with fail
  refine (R4.out _).mono ?_
  clear R4
  rintro en w8 ⟨rfl, hy8⟩
  have hz8 := hz7.trans (hy8.mono hz7.size)
  clear hy8 hz7
  go_wp2_with fail
  refine (O5.out _).mono ?_
  clear O5
  rintro en w9 ⟨rfl, hy9⟩
  have hz9 := hz8.trans (hy9.mono hz8.size)
  clear hy9 hz8
  go_wp2_with fail
  refine (O6.out _).mono ?_
  clear O6
  rintro en w10 ⟨rfl, hy10⟩
  have hz10 := hz9.trans (hy10.mono hz9.size)
  clear hy10 hz9
  obtain ⟨y1, hy1⟩ : ∃ y, y = namesL := ⟨_, rfl⟩
  have HY1 := Lib.hid (show y1 = [(⟨#[57]⟩ : ByteArray), (⟨#[97, 45, 98]⟩ : ByteArray), (⟨#[97, 32, 98]⟩ : ByteArray), (⟨#[0]⟩ : ByteArray), (⟨#[97, 195]⟩ : ByteArray), (⟨#[195, 169]⟩ : ByteArray), (⟨#[123]⟩ : ByteArray), (⟨#[97, 46]⟩ : ByteArray)] from hy1)
  have HYL1 := Lib.hid (show y1.length = 8 by rw [hy1]; rfl)
  have HX1 := Lib.hid names_ok
  rw [← hy1] at HX1
  clear hy1
  go_wp2_with ((with_reducible refine gate_dst (N := 48) rfl ?_); refine Kd.R_lit Kd.string _ 9 ?hg (N := 48) ?hd (xs := ([(⟨#[57]⟩ : ByteArray), (⟨#[97, 45, 98]⟩ : ByteArray), (⟨#[97, 32, 98]⟩ : ByteArray), (⟨#[0]⟩ : ByteArray), (⟨#[97, 195]⟩ : ByteArray), (⟨#[195, 169]⟩ : ByteArray), (⟨#[123]⟩ : ByteArray), (⟨#[97, 46]⟩ : ByteArray)] : List ByteArray)) (inner := [.string (⟨#[57]⟩ : ByteArray), .string (⟨#[97, 45, 98]⟩ : ByteArray), .string (⟨#[97, 32, 98]⟩ : ByteArray), .string (⟨#[0]⟩ : ByteArray), .string (⟨#[97, 195]⟩ : ByteArray), .string (⟨#[195, 169]⟩ : ByteArray), .string (⟨#[123]⟩ : ByteArray), .string (⟨#[97, 46]⟩ : ByteArray)]) (ok := fun _ => True) (okp := fun _ => True) ?hr ?hp (fun _ hk => hk) trivial (Below.refl _ _) (Nat.le_refl _) (by simp) ?_; (case hd => rfl); (case hg => rfl); (case hr => first | (go_simp; done) | (go_simp; rfl)); (case hp => exact (Reps.one (show Kd.M Kd.string _ _ _ (⟨#[57]⟩ : ByteArray) [.string (⟨#[57]⟩ : ByteArray)] from rfl) (Reps.one (show Kd.M Kd.string _ _ _ (⟨#[97, 45, 98]⟩ : ByteArray) [.string (⟨#[97, 45, 98]⟩ : ByteArray)] from rfl) (Reps.one (show Kd.M Kd.string _ _ _ (⟨#[97, 32, 98]⟩ : ByteArray) [.string (⟨#[97, 32, 98]⟩ : ByteArray)] from rfl) (Reps.one (show Kd.M Kd.string _ _ _ (⟨#[0]⟩ : ByteArray) [.string (⟨#[0]⟩ : ByteArray)] from rfl) (Reps.one (show Kd.M Kd.string _ _ _ (⟨#[97, 195]⟩ : ByteArray) [.string (⟨#[97, 195]⟩ : ByteArray)] from rfl) (Reps.one (show Kd.M Kd.string _ _ _ (⟨#[195, 169]⟩ : ByteArray) [.string (⟨#[195, 169]⟩ : ByteArray)] from rfl) (Reps.one (show Kd.M Kd.string _ _ _ (⟨#[123]⟩ : ByteArray) [.string (⟨#[123]⟩ : ByteArray)] from rfl) (Reps.one (show Kd.M Kd.string _ _ _ (⟨#[97, 46]⟩ : ByteArray) [.string (⟨#[97, 46]⟩ : ByteArray)] from rfl) (Reps.none _ _)))))))))); intro vq wl1 ho1 hb1 hg1 hnew1; clear hg1 hnew1; rw [← HY1.out] at ho1; obtain ⟨A1, c1, eo1⟩ := Kd.R_slice ho1; subst eo1; have HO1 := Lib.hid ho1; clear ho1)
  have hz21 := hz10.trans (hb1.mono hz10.size)
  have HC1 := Lib.hid (Kd.R_reads' HO1.out).2.2
  clear hz10 hb1 HO1 HY1
  go_wp2_with fail
  go_loopw [2] (fun v wr => ∃ j : Nat, v = .int .i64 j ∧ j ≤ 8 ∧ Below w.heap.size w wr ∧ Below wl1.heap.size wl1 wr) (fun v _ => 8 - (intOf v).toNat)
  case atStart => exact ⟨0, rfl, by omega, hz21, Below.refl _ _⟩
  case round =>
  clear hz21
  obtain ⟨j, rfl, hj, hbj, hbl⟩ := hrel
  have hyl1 : y1.length ≤ 8 := Nat.le_of_eq HYL1.out
  have hyl2 : 8 ≤ y1.length := Nat.le_of_eq HYL1.out.symm
  by_cases hjy : j < y1.length
  · obtain ⟨ad, eA, h0⟩ := at_S HC1.out j hjy
    subst eA
    have h0' := pw_cell_below hbl h0
    have RX := Lib.hid ((ONE2.out _ _ _ (HX1.out j hjy)).out wr)
    generalize y1[j] = s at *
    clear h0
    go_wp2_with fail
    refine RX.out.mono ?_
    clear RX
    rintro en wx ⟨rfl, hb2⟩
    have hbj2 := hbj.trans (hb2.mono hbj.size)
    have hbl2 := hbl.trans (hb2.mono hbl.size)
    clear hbj hbl hb2 h0'
    go_wp2
    go_roundw
    case rel => exact ⟨j + 1, by go_num, by omega, hbj2, hbl2⟩
    case measure => simp [intOf]; omega
  · clear hbl HC1
    obtain ⟨y2, hy2⟩ : ∃ y, y = badL := ⟨_, rfl⟩
    have HY2 := Lib.hid (show y2 = [(⟨#[255]⟩ : ByteArray), (⟨#[97, 128]⟩ : ByteArray), (⟨#[192, 128]⟩ : ByteArray), (⟨#[195]⟩ : ByteArray), (⟨#[237, 160, 128]⟩ : ByteArray), (⟨#[244, 144, 128, 128]⟩ : ByteArray), (⟨#[224, 128, 128]⟩ : ByteArray), (⟨#[248, 136, 128, 128, 128]⟩ : ByteArray), (⟨#[195, 40]⟩ : ByteArray)] from hy2)
    have HYL2 := Lib.hid (show y2.length = 9 by rw [hy2]; rfl)
    have HX2 := Lib.hid bad_ok
    rw [← hy2] at HX2
    clear hy2
    go_wp2_with ((with_reducible refine gate_dst (N := 61) rfl ?_); refine Kd.R_lit Kd.string _ 9 ?hg (N := 61) ?hd (xs := ([(⟨#[255]⟩ : ByteArray), (⟨#[97, 128]⟩ : ByteArray), (⟨#[192, 128]⟩ : ByteArray), (⟨#[195]⟩ : ByteArray), (⟨#[237, 160, 128]⟩ : ByteArray), (⟨#[244, 144, 128, 128]⟩ : ByteArray), (⟨#[224, 128, 128]⟩ : ByteArray), (⟨#[248, 136, 128, 128, 128]⟩ : ByteArray), (⟨#[195, 40]⟩ : ByteArray)] : List ByteArray)) (inner := [.string (⟨#[255]⟩ : ByteArray), .string (⟨#[97, 128]⟩ : ByteArray), .string (⟨#[192, 128]⟩ : ByteArray), .string (⟨#[195]⟩ : ByteArray), .string (⟨#[237, 160, 128]⟩ : ByteArray), .string (⟨#[244, 144, 128, 128]⟩ : ByteArray), .string (⟨#[224, 128, 128]⟩ : ByteArray), .string (⟨#[248, 136, 128, 128, 128]⟩ : ByteArray), .string (⟨#[195, 40]⟩ : ByteArray)]) (ok := fun _ => True) (okp := fun _ => True) ?hr ?hp (fun _ hk => hk) trivial (Below.refl _ _) (Nat.le_refl _) (by simp) ?_; (case hd => rfl); (case hg => rfl); (case hr => first | (go_simp; done) | (go_simp; rfl)); (case hp => exact (Reps.one (show Kd.M Kd.string _ _ _ (⟨#[255]⟩ : ByteArray) [.string (⟨#[255]⟩ : ByteArray)] from rfl) (Reps.one (show Kd.M Kd.string _ _ _ (⟨#[97, 128]⟩ : ByteArray) [.string (⟨#[97, 128]⟩ : ByteArray)] from rfl) (Reps.one (show Kd.M Kd.string _ _ _ (⟨#[192, 128]⟩ : ByteArray) [.string (⟨#[192, 128]⟩ : ByteArray)] from rfl) (Reps.one (show Kd.M Kd.string _ _ _ (⟨#[195]⟩ : ByteArray) [.string (⟨#[195]⟩ : ByteArray)] from rfl) (Reps.one (show Kd.M Kd.string _ _ _ (⟨#[237, 160, 128]⟩ : ByteArray) [.string (⟨#[237, 160, 128]⟩ : ByteArray)] from rfl) (Reps.one (show Kd.M Kd.string _ _ _ (⟨#[244, 144, 128, 128]⟩ : ByteArray) [.string (⟨#[244, 144, 128, 128]⟩ : ByteArray)] from rfl) (Reps.one (show Kd.M Kd.string _ _ _ (⟨#[224, 128, 128]⟩ : ByteArray) [.string (⟨#[224, 128, 128]⟩ : ByteArray)] from rfl) (Reps.one (show Kd.M Kd.string _ _ _ (⟨#[248, 136, 128, 128, 128]⟩ : ByteArray) [.string (⟨#[248, 136, 128, 128, 128]⟩ : ByteArray)] from rfl) (Reps.one (show Kd.M Kd.string _ _ _ (⟨#[195, 40]⟩ : ByteArray) [.string (⟨#[195, 40]⟩ : ByteArray)] from rfl) (Reps.none _ _))))))))))); intro vq wl2 ho1 hb1 hg1 hnew1; clear hg1 hnew1; rw [← HY2.out] at ho1; obtain ⟨A2, c2, eo1⟩ := Kd.R_slice ho1; subst eo1; have HO1 := Lib.hid ho1; clear ho1)
    have hz22 := hbj.trans (hb1.mono hbj.size)
    have HC2 := Lib.hid (Kd.R_reads' HO1.out).2.2
    clear hbj hb1 HO1 HY2
    go_wp2_with fail
    go_loopw [4] (fun v wr => ∃ j : Nat, v = .int .i64 j ∧ j ≤ 9 ∧ Below w.heap.size w wr ∧ Below wl2.heap.size wl2 wr) (fun v _ => 9 - (intOf v).toNat)
    case atStart => exact ⟨0, rfl, by omega, hz22, Below.refl _ _⟩
    case round =>
    clear hz22
    obtain ⟨j, rfl, hj, hbj, hbl⟩ := hrel
    have hyl1 : y2.length ≤ 9 := Nat.le_of_eq HYL2.out
    have hyl2 : 9 ≤ y2.length := Nat.le_of_eq HYL2.out.symm
    by_cases hjy : j < y2.length
    · obtain ⟨ad, eA, h0⟩ := at_S HC2.out j hjy
      subst eA
      have h0' := pw_cell_below hbl h0
      have RX := Lib.hid ((ONE2.out _ _ _ (HX2.out j hjy)).out wr)
      generalize y2[j] = s at *
      clear h0
      go_wp2_with fail
      refine RX.out.mono ?_
      clear RX
      rintro en wx ⟨rfl, hb2⟩
      have hbj2 := hbj.trans (hb2.mono hbj.size)
      have hbl2 := hbl.trans (hb2.mono hbl.size)
      clear hbj hbl hb2 h0'
      go_wp2
      go_roundw
      case rel => exact ⟨j + 1, by go_num, by omega, hbj2, hbl2⟩
      case measure => simp [intOf]; omega
    · clear hbl HC2
      obtain ⟨y3, hy3⟩ : ∃ y, y = goodL6 := ⟨_, rfl⟩
      have HY3 := Lib.hid (show y3 = [(⟨#[0]⟩ : ByteArray), (⟨#[239, 191, 189]⟩ : ByteArray), (⟨#[244, 143, 191, 191]⟩ : ByteArray), (⟨#[237, 159, 191]⟩ : ByteArray), (⟨#[194, 128]⟩ : ByteArray), (⟨#[34, 92, 10, 127]⟩ : ByteArray)] from hy3)
      have HYL3 := Lib.hid (show y3.length = 6 by rw [hy3]; rfl)
      have HX3 := Lib.hid good_ok
      rw [← hy3] at HX3
      clear hy3
      go_wp2_with ((with_reducible refine gate_dst (N := 74) rfl ?_); refine Kd.R_lit Kd.string _ 9 ?hg (N := 74) ?hd (xs := ([(⟨#[0]⟩ : ByteArray), (⟨#[239, 191, 189]⟩ : ByteArray), (⟨#[244, 143, 191, 191]⟩ : ByteArray), (⟨#[237, 159, 191]⟩ : ByteArray), (⟨#[194, 128]⟩ : ByteArray), (⟨#[34, 92, 10, 127]⟩ : ByteArray)] : List ByteArray)) (inner := [.string (⟨#[0]⟩ : ByteArray), .string (⟨#[239, 191, 189]⟩ : ByteArray), .string (⟨#[244, 143, 191, 191]⟩ : ByteArray), .string (⟨#[237, 159, 191]⟩ : ByteArray), .string (⟨#[194, 128]⟩ : ByteArray), .string (⟨#[34, 92, 10, 127]⟩ : ByteArray)]) (ok := fun _ => True) (okp := fun _ => True) ?hr ?hp (fun _ hk => hk) trivial (Below.refl _ _) (Nat.le_refl _) (by simp) ?_; (case hd => rfl); (case hg => rfl); (case hr => first | (go_simp; done) | (go_simp; rfl)); (case hp => exact (Reps.one (show Kd.M Kd.string _ _ _ (⟨#[0]⟩ : ByteArray) [.string (⟨#[0]⟩ : ByteArray)] from rfl) (Reps.one (show Kd.M Kd.string _ _ _ (⟨#[239, 191, 189]⟩ : ByteArray) [.string (⟨#[239, 191, 189]⟩ : ByteArray)] from rfl) (Reps.one (show Kd.M Kd.string _ _ _ (⟨#[244, 143, 191, 191]⟩ : ByteArray) [.string (⟨#[244, 143, 191, 191]⟩ : ByteArray)] from rfl) (Reps.one (show Kd.M Kd.string _ _ _ (⟨#[237, 159, 191]⟩ : ByteArray) [.string (⟨#[237, 159, 191]⟩ : ByteArray)] from rfl) (Reps.one (show Kd.M Kd.string _ _ _ (⟨#[194, 128]⟩ : ByteArray) [.string (⟨#[194, 128]⟩ : ByteArray)] from rfl) (Reps.one (show Kd.M Kd.string _ _ _ (⟨#[34, 92, 10, 127]⟩ : ByteArray) [.string (⟨#[34, 92, 10, 127]⟩ : ByteArray)] from rfl) (Reps.none _ _)))))))); intro vq wl3 ho1 hb1 hg1 hnew1; clear hg1 hnew1; rw [← HY3.out] at ho1; obtain ⟨A3, c3, eo1⟩ := Kd.R_slice ho1; subst eo1; have HO1 := Lib.hid ho1; clear ho1)
      have hz23 := hbj.trans (hb1.mono hbj.size)
      have HC3 := Lib.hid (Kd.R_reads' HO1.out).2.2
      clear hbj hb1 HO1 HY3
      go_wp2_with fail
      go_loopw [6] (fun v wr => ∃ j : Nat, v = .int .i64 j ∧ j ≤ 6 ∧ Below w.heap.size w wr ∧ Below wl3.heap.size wl3 wr) (fun v _ => 6 - (intOf v).toNat)
      case atStart => exact ⟨0, rfl, by omega, hz23, Below.refl _ _⟩
      case round =>
      clear hz23
      obtain ⟨j, rfl, hj, hbj, hbl⟩ := hrel
      have hyl1 : y3.length ≤ 6 := Nat.le_of_eq HYL3.out
      have hyl2 : 6 ≤ y3.length := Nat.le_of_eq HYL3.out.symm
      by_cases hjy : j < y3.length
      · obtain ⟨ad, eA, h0⟩ := at_S HC3.out j hjy
        subst eA
        have h0' := pw_cell_below hbl h0
        have RX := Lib.hid ((ONE2.out _ _ _ (HX3.out j hjy)).out wr)
        generalize y3[j] = s at *
        clear h0
        go_wp2_with fail
        refine RX.out.mono ?_
        clear RX
        rintro en wx ⟨rfl, hb2⟩
        have hbj2 := hbj.trans (hb2.mono hbj.size)
        have hbl2 := hbl.trans (hb2.mono hbl.size)
        clear hbj hbl hb2 h0'
        go_wp2
        go_roundw
        case rel => exact ⟨j + 1, by go_num, by omega, hbj2, hbl2⟩
        case measure => simp [intOf]; omega
      · clear hbl HC3
        have hs8 := hbj.size
        obtain ⟨L, hL⟩ : ∃ L, L = labsL := ⟨_, rfl⟩
        have HLL := Lib.hid (show L.length = 17 by rw [hL]; rfl)
        have HLT := Lib.hid (show ∀ i, i < 17 → L.take (i + 1) = L.take i ++ [labI i] from fun i hi => by rw [hL, List.take_succ_eq_append_getElem (by show i < 17; exact hi)]; congr 2; simp [labsL])
        have HS1 := Lib.hid (show (setL L).2 = 133 by rw [hL]; exact labs_many)
        have HS2 := Lib.hid (show (setL (L.drop 1)).2 = 0 ∧ (setL (L.drop 1)).1.length = 16 by rw [hL]; exact labs_one)
        have HT := Lib.hid (show textL L = (⟨#[]⟩, 134) by rw [hL]; exact labs_text)
        have HK := Lib.hid (show keyL L = ([], 134) by rw [hL]; exact labs_key)
        clear hL
        go_wp2_with fail
        rename_i wb
        go_loopw [7, 8] (fun v7 v8 wr => ∃ i : Nat, v8 = .int .i64 i ∧ i ≤ 17 ∧ Hid (Kd.R k27 27 wr w.heap.size (fun _ => True) v7 (L.take i)) ∧ Below w.heap.size w wr) (fun _ v _ => 17 - (intOf v).toNat)
        case atStart => exact ⟨0, rfl, by omega, Lib.hid (Kd.R_nil _ _ _ _ _), hbj⟩
        case round =>
        clear hbj hs8
        obtain ⟨i, rfl, hi, hR, hbw⟩ := hrel
        by_cases hi16 : (i : Int) ≤ 16
        · have RC := Lib.hid (rep_calls 98 i wr (by omega))
          have HLI := Lib.hid (HLT.out i (by omega))
          have hrs : (repB 98 i).size = i := repB_size 98 i
          unfold labI at HLI
          generalize repB 98 i = rb at *
          have hA1 : ¬ (9223372036854775807 < 1 + rb.size) := by omega
          have HRS := Lib.hid hrs
          clear hrs
          go_wp2_with fail
          refine RC.out.mono ?_
          clear RC
          rintro en wx ⟨rfl, hb2⟩
          have hbw2 := hbw.trans (hb2.mono hbw.size)
          have hR2 := Lib.hid (Kd.R_below hR.out hb2)
          clear hR hbw hb2
          go_wp2_with (at_builtin; refine Kd.R_append k27 (w0 := w) w.heap.size rfl (.tmp 91) (.tmp 96) 22 27 (.agg #[(.string ⟨#[]⟩), (.string ⟨#[]⟩)]) 32 rfl Tryd.underlying22 info27 rfl (by decide) (by omega) u7 (L.take i) ⟨(⟨#[97]⟩ : ByteArray) ++ rb, ⟨#[120]⟩⟩ [.string ((⟨#[97]⟩ : ByteArray) ++ rb), .string ⟨#[120]⟩] (fun _ => True) (fun _ => False) rfl rfl ?aP (fun _ hk => hk.elim) (fun _ _ => trivial) hR2.out hbw2 hbw2.size ?aL ?_; (case aP => exact k27_mkM _ _ _ _); (case aL => rw [List.length_take]; omega); rintro v9 w3 hR3 hb3 hg3 hat3)
          go_roundw
          case rel => exact ⟨i + 1, by go_num, by omega, Lib.hid (by rw [HLI.out]; exact hR3), hb3⟩
          case measure => simp [intOf]; omega
        · have hLi : L.take i = L := List.take_of_length_le (by rw [HLL.out]; omega)
          rw [hLi] at hR
          obtain ⟨A7, c7, rfl⟩ := Kd.R_slice hR.out
          have hl1 : L.length ≤ 17 := Nat.le_of_eq HLL.out
          have hl2 : 17 ≤ L.length := Nat.le_of_eq HLL.out.symm
          clear hLi
          have HCL := Lib.hid (Kd.R_reads' hR.out).2.2
          have hcl := (Kd.R_reads' hR.out).2.1
          clear hR
          have S1 := set_calls A7 c7 L wr HCL.out hcl (by omega)
          rw [HS1.out] at S1
          have HH1 := Lib.hid S1
          clear S1
          go_wp2_with fail
          refine HH1.out.mono ?_
          clear HH1
          rintro en wa ⟨v9, rfl, hRa, hba⟩
          obtain ⟨A9, c9, rfl⟩ := Kd.R_slice hRa
          have hbwa := hbw.trans (hba.mono hbw.size)
          have HCa := Lib.hid (Kd.C_below HCL.out hba)
          clear hRa hba hbw HCL
          obtain ⟨inf, hinf, hinf2⟩ := Option.map_eq_some_iff.1 info27
          have hsz27 : inf.size = 2 := by
            have := congrArg (fun p => p.2.1) hinf2
            simpa using this
          have hcut := cut_from 22 27 .i64 Tryd.underlying22 hinf 2 hsz27 A7 L.length c7 1 (by omega) (by omega)
          have HCb := Kd.C_drop (m := 1) HCa.out (by omega) hcl
          have hdl : (L.drop 1).length = L.length - 1 := List.length_drop
          have hdc : (L.drop 1).length ≤ c7 - 1 := by omega
          rw [show (1 : Int).toNat = 1 from rfl] at hcut
          rw [← hdl] at hcut
          have hcut2 : ∃ A8, (∀ W : World, (Instr.slice 22 (.slice A7 L.length c7) (some (.int .i64 1)) none none).run Tryd.prog W = .ok (.slice A8 (L.drop 1).length (c7 - 1)) W) ∧ Kd.C k27 wa A8 (L.drop 1).length (L.drop 1) := ⟨_, hcut, HCb⟩
          clear hcut HCb hinf hinf2 hsz27
          obtain ⟨A8, hcut, HCb⟩ := hcut2
          have HHB := Lib.hid HCb
          clear HCb
          have hd17 : (L.drop 1).length ≤ 17 := by omega
          generalize L.drop 1 = D at *
          have S2 := set_calls A8 (c7 - 1) D wa HHB.out hdc (by omega)
          rw [HS2.out.1] at S2
          have HH2 := Lib.hid S2
          have HD16 := Lib.hid HS2.out.2
          clear S2 HS2 hdl
          go_wp2_with fail
          refine HH2.out.mono ?_
          clear HH2
          rintro en wc ⟨v11, rfl, hRc, hbc⟩
          obtain ⟨A11, c11, rfl⟩ := Kd.R_slice hRc
          have hbwc := hbwa.trans (hbc.mono hbwa.size)
          have HCc := Lib.hid (Kd.C_below HCa.out hbc)
          clear hRc hbc hbwa HCa hcut HHB
          generalize (setL D).1 = d at *
          have T1 := text_calls A7 c7 L wc HCc.out (by omega) (HE.out.below hbwc).tabs
          rw [HT.out] at T1
          have HT1 := Lib.hid T1
          clear T1
          go_wp2_with fail
          refine HT1.out.mono ?_
          clear HT1
          rintro en wd ⟨rfl, hbd⟩
          have hbwd := hbwc.trans (hbd.mono hbwc.size)
          have HCd := Lib.hid (Kd.C_below HCc.out hbd)
          clear hbd hbwc HCc
          have K1 := key_calls A7 c7 L wd HCd.out (by omega) (HE.out.below hbwd).max
          rw [HK.out] at K1
          have HK1 := Lib.hid K1
          clear K1
          go_wp2_with fail
          refine HK1.out.mono ?_
          clear HK1
          rintro en we ⟨v15, rfl, hRe, hbe⟩
          have hbwe := hbwd.trans (hbe.mono hbwd.size)
          clear hRe hbe hbwd HCd
          have hmk : ∀ W : World, (Instr.makeSlice 37 (.int .i64 65) (.int .i64 65)).run Tryd.prog W = .ok (.slice (some ⟨W.heap.size, 0, none⟩) 65 65) (W.alloc (.cells (Array.replicate 65 (.string ⟨#[]⟩)) 9)) := fun _ => by kernel_rfl
          go_wp2_with fail
          have hx1 := heap_alloc_new we (.cells (Array.replicate 65 (.string ⟨#[]⟩)) 9)
          have hb1 := (Below.refl we.heap.size we).alloc (Nat.le_refl _) (.cells (Array.replicate 65 (.string ⟨#[]⟩)) 9)
          have hbw1 := hbwe.trans (hb1.mono hbwe.size)
          have hs1 : (we.alloc (.cells (Array.replicate 65 (.string ⟨#[]⟩)) 9)).heap.size = we.heap.size + 1 := by simp
          generalize we.alloc (.cells (Array.replicate 65 (.string ⟨#[]⟩)) 9) = w1 at *
          have hx2 := heap_alloc_new w1 (.cells #[.int .i64 4, .string ⟨#[97]⟩, .string ⟨#[]⟩, .slice (some ⟨we.heap.size, 0, none⟩) 65 65] 64)
          have hb2 := (Below.refl w1.heap.size w1).alloc (Nat.le_refl _) (.cells #[.int .i64 4, .string ⟨#[97]⟩, .string ⟨#[]⟩, .slice (some ⟨we.heap.size, 0, none⟩) 65 65] 64)
          have hbw2 := hbw1.trans (hb2.mono hbw1.size)
          have hx12 := (hb2.block we.heap.size (Array.getElem?_eq_some_iff.1 hx1).1).trans hx1
          have hgw : w.heap.size ≤ w1.heap.size := hbw1.size
          have hne : we.heap.size ≠ w1.heap.size := Nat.ne_of_lt (Array.getElem?_eq_some_iff.1 hx1).1
          have CK1 := (check_words hx12).1
          refine CK1.mono ?_
          clear CK1
          rintro en w3 ⟨rfl, hb3⟩
          have hbw3 := hbw2.trans (hb3.mono hbw2.size)
          have hx3 := (hb3.block w1.heap.size (Array.getElem?_eq_some_iff.1 hx2).1).trans hx2
          have hx13 := (hb3.block we.heap.size (Array.getElem?_eq_some_iff.1 hx12).1).trans hx12
          rw [hs1] at hx3
          have hne2 : we.heap.size ≠ we.heap.size + 1 := by omega
          have hgw2 : w.heap.size ≤ we.heap.size + 1 := by rw [← hs1]; exact hgw
          have hc30 := cell_at hx3 0
          have hc31 := cell_at hx3 1
          have hc32 := cell_at hx3 2
          have hc33 := cell_at hx3 3
          have hfr := frz_at hx3 3
          obtain ⟨inf, hinf, hinf2⟩ := Option.map_eq_some_iff.1 info9
          have hcut := cut_to 37 9 .i64 Tryd.underlying37 hinf (some ⟨we.heap.size, 0, none⟩) 65 65 64 (by decide) (by decide) (by decide)
          rw [show (64 : Int).toNat = 64 from rfl] at hcut
          have HX3 := Lib.hid hx3
          have HX13 := Lib.hid hx13
          have HBW3 := Lib.hid hbw3
          have HGW := Lib.hid hgw2
          have HNE := Lib.hid hne2
          have hd16 : ((d.length : Int) == 16) = true := by rw [HD16.out]; rfl
          clear hinf hinf2 hx1 hb1 hbw1 hx2 hb2 hbw2 hx12 hx3 hx13 hb3 hbw3 hbwe hmk hgw hne hs1 hne2 hgw2
          go_wp2_with (first | (go_at_call 12; (with_reducible refine (num_calls _ _).mono ?_); rintro en wx ⟨rfl, hwx⟩; subst wx))
          have hx4 := (Below.heap_setCell w3 ⟨we.heap.size + 1, 3, none⟩ (.slice (some ⟨we.heap.size, 0, none⟩) 64 65) we.heap.size HNE.out).trans HX13.out
          have CK2 := (check_words hx4).2
          have hbs := HBW3.out.setCell (p := ⟨we.heap.size + 1, 3, none⟩) HGW.out (.slice (some ⟨we.heap.size, 0, none⟩) 64 65)
          clear hx4 hc30 hc31 hc32 hc33 hfr hcut
          refine CK2.mono ?_
          clear CK2
          rintro en w4 ⟨rfl, hb4⟩
          go_wp2_with (first | (go_at_call 12; (with_reducible refine (num_calls _ _).mono ?_); rintro en wx ⟨rfl, hwx⟩; subst wx))
          go_ret
          exact ⟨rfl, hbs.trans (hb4.mono hbs.size)⟩
end Go.Proofs.YtkanfffbdegfoaaDoor.PD
