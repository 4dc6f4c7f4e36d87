/- fathomlaw13.LabelBlanks: for every argument it returns true; what was there is as it was. No condition but the environment's (the tables). -/
import Derived.Test.YtkanfffbdegfoaaDoorKU
import Derived.Test.YtkanfffbdegfoaaDoorKS
import Derived.Test.YtkanfffbdegfoaaDoorLabT
namespace Go.Proofs.YtkanfffbdegfoaaDoor.PD
set_option linter.unusedVariables false
set_option linter.unusedSimpArgs false
open Go.RowKit Go.Proofs.YtkanfffbdegfoaaDoorW.PrintWords Go.Proofs.YtkanfffbdegfoaaDoorW.PrintLast Go.Proofs.YtkanfffbdegfoaaDoorW.PrintMore

def spB (k : Nat) : ByteArray := ⟨(sp k).toArray⟩
theorem spB_data (k : Nat) : (spB k).data.toList = sp k := by simp [spB]
theorem spB_size (k : Nat) : (spB k).size = k := by
  rw [← data_length, spB_data, sp_len]
theorem at_I {w : World} {A : Option Addr} {xs : List Int} (h : Kd.C (Kd.int .i64) w A xs.length xs) (k : Nat) (hk : k < xs.length) : ∃ ad, A = some ad ∧ w.cell? (ad.add k) = some (.int .i64 xs[k]) := by
  obtain ⟨ad, cs, e, _, hK, hc0⟩ := Kd.C_get h (0 : Int) (k : Int) (by omega) (by omega)
  have hg : xs.getD (k : Int).toNat 0 = xs[k] := by simp [List.getD_eq_getElem?_getD, List.getElem?_eq_getElem hk]
  rw [hg] at hK
  obtain rfl : cs = [.int .i64 xs[k]] := hK
  have := hc0 0 _ rfl
  exact ⟨ad, e, by simpa [Kd.int, Kd.scalar] using this⟩
/-- How many blanks: (Blank).blanks. -/
def blkN (bl : List Int) (i : Nat) : Nat := if h : 0 < bl.length then (withinV (bl[i % bl.length]'(Nat.mod_lt _ h)) 4).toNat else 0
theorem blkN_le (bl : List Int) (i : Nat) : blkN bl i ≤ 3 := by
  unfold blkN
  split
  · rename_i h
    have := withinV_at (bl[i % bl.length]'(Nat.mod_lt _ h)) 4 (by decide)
    omega
  · exact Nat.zero_le _
theorem three_cut : ∀ k : Nat, k ≤ 3 → (⟨#[32, 32, 32]⟩ : ByteArray).extract 0 k = spB k
  | 0, _ => rfl
  | 1, _ => rfl
  | 2, _ => rfl
  | 3, _ => rfl
theorem three_slice (k : Nat) (hk : k ≤ 3) (W : World) : (Instr.slice 9 (.string ⟨#[32, 32, 32]⟩) none (some (.int .i64 (k : Int))) none).run Tryd.prog W = .ok (.string (spB k)) W := by
  have h1 : (0 : Int) ≤ (k : Int) := by omega
  have h3 : ¬ 3 < (k : Int) := by omega
  rw [← three_cut k hk]
  go_simp
set_option maxHeartbeats 4000000 in
set_option maxRecDepth 100000 in
theorem blanks19_calls (A0 : Option Addr) (n0 c0 : Nat) (A1 : Option Addr) (c1 : Nat) (bl : List Int) (i : Nat) (w : World) (hr : Kd.C (Kd.int .i64) w A1 bl.length bl) (hi : i ≤ 1000) :
    Calls Tryd.prog 19 #[.agg #[.slice A0 n0 c0, .slice A1 bl.length c1], .int .i64 i] w fun e w' => e = .returned (.string (spB (blkN bl i))) ∧ Below w.heap.size w w' := by
  have hbl : bl.length ≤ 9223372036854775807 := hr.2.1
  generalize hres : blkN bl i = res
  have hr3 : res ≤ 3 := by rw [← hres]; exact blkN_le bl i
  have HS := Lib.hid hres
  clear hres
  have hb0 := (Below.refl w.heap.size w).alloc (Nat.le_refl _) (.cells #[.slice A0 n0 c0, .slice A1 bl.length c1] 46)
  have hx0 := heap_alloc_new w (.cells #[.slice A0 n0 c0, .slice A1 bl.length c1] 46)
  by_cases h0 : 0 < bl.length
  · have hz : ((bl.length : Int) == 0) = false := by rw [beq_eq_false_iff_ne]; omega
    obtain ⟨ad, eA, hc⟩ := at_I hr (i % bl.length) (Nat.mod_lt _ h0)
    subst eA
    have hv := withinV_at (bl[i % bl.length]'(Nat.mod_lt _ h0)) 4 (by decide)
    have hres2 : withinV (bl[i % bl.length]'(Nat.mod_lt _ h0)) 4 = (res : Int) := by rw [← HS.out, blkN, dif_pos h0]; exact (Int.toNat_of_nonneg hv.1).symm
    have W4 := fun (W : World) => within_calls (bl[i % bl.length]'(Nat.mod_lt _ h0)) 4 W (by decide) (by decide)
    rw [hres2] at W4
    have hmi : ((i : Int)) % bl.length = ((i % bl.length : Nat) : Int) := by rw [Int.natCast_emod]
    have hml : i % bl.length < bl.length := Nat.mod_lt _ h0
    generalize (bl[i % bl.length]'(Nat.mod_lt _ h0)) = x at *
    generalize i % bl.length = j at *
    have hc' := pw_cell_below hb0 hc
    have SL := three_slice res hr3
    have HW4 := Lib.hid W4
    have HB0 := Lib.hid hb0
    have hcs := cell_at hx0 1
    clear hv hres2 W4 hc hb0 hx0
    have hk1 : (0 : Int) ≤ (j : Int) := by omega
    have hk2 : (j : Int) < (bl.length : Int) := by omega
    go_enter Tryd.func19, Tryd.ntmps19
    go_upto_region 3 with (fail)
    generalize w.alloc (.cells #[.slice A0 n0 c0, .slice (some ad) bl.length c1] 46) = wa at *
    have L1 : ∀ p : BelowAt wa.heap.size wa, p.u.cell? ⟨w.heap.size, 1, none⟩ = some (.slice (some ad) bl.length c1) := fun p => pw_cell_below p.h hcs
    have L2 : ∀ p : BelowAt wa.heap.size wa, p.u.cell? (ad.add j) = some (.int .i64 x) := fun p => pw_cell_below p.h hc'
    refine wp_region_quiet_below wa.heap.size wa (by kernel_rfl) (by kernel_rfl) (Below.refl _ _) ?_
    repeat go_big_quiet_step (first | (go_at_call 10; exact calls_below_of (Nat.le_refl _) (HW4.out _)))
    refine wpQuiet_nil ?_
    rintro wq ⟨⟨uq, hq⟩, hwq⟩
    obtain rfl : wq = uq := hwq
    go_wp2
    go_ret
    exact ⟨rfl, HB0.out.trans (hq.mono HB0.out.size)⟩
  · have hz : ((bl.length : Int) == 0) = true := by rw [beq_iff_eq]; omega
    have hres : res = 0 := by rw [← HS.out, blkN, dif_neg h0]
    subst hres
    have HB0 := Lib.hid hb0
    clear hx0 hb0
    go_enter Tryd.func19, Tryd.ntmps19
    go_wp2
    go_ret
    exact ⟨rfl, HB0.out⟩

/-- A set's labels as they stand in the text, from the last one on. -/
def dnI (a : List S27) (bl : List Int) : Nat → List Item
  | 0 => []
  | m + 1 => ⟨a.getD m ⟨⟨#[]⟩, ⟨#[]⟩⟩, blkN bl (2 + m), blkN bl (3 + m), blkN bl (4 + m), blkN bl (5 + m)⟩ :: dnI a bl m
theorem dnI_names (a : List S27) (bl : List Int) (ha : ∀ x ∈ a, nameB x.f0 = true) : ∀ m, m ≤ a.length → ∀ p ∈ dnI a bl m, nameB p.x.f0 = true
  | 0, _, p, hp => by cases hp
  | m + 1, h, p, hp => by
    rcases List.mem_cons.1 hp with rfl | hp
    · have : a.getD m ⟨⟨#[]⟩, ⟨#[]⟩⟩ = a[m] := by simp [List.getD_eq_getElem?_getD, List.getElem?_eq_getElem (show m < a.length by omega)]
      show nameB (a.getD m ⟨⟨#[]⟩, ⟨#[]⟩⟩).f0 = true
      rw [this]
      exact ha _ (List.getElem_mem _)
    · exact dnI_names a bl ha m (by omega) p hp
theorem dnI_rev (a : List S27) (bl : List Int) : ∀ m, m ≤ a.length → (dnI a bl m).map (·.x) = (a.take m).reverse
  | 0, _ => by simp [dnI]
  | m + 1, h => by
    have : a.getD m ⟨⟨#[]⟩, ⟨#[]⟩⟩ = a[m] := by simp [List.getD_eq_getElem?_getD, List.getElem?_eq_getElem (show m < a.length by omega)]
    rw [dnI, List.map_cons, dnI_rev a bl m (by omega), List.take_succ_eq_append_getElem (by omega), List.reverse_append]
    show _ :: _ = [a[m]] ++ _
    rw [this]
    rfl
theorem bodyT_last (a : List S27) (bl : List Int) (h : 0 < a.length) : bodyT (dnI a bl 1) = itemT a[0] (blkN bl 2) (blkN bl 3) ++ sp (blkN bl 4) := by
  have : a.getD 0 ⟨⟨#[]⟩, ⟨#[]⟩⟩ = a[0] := by simp [List.getD_eq_getElem?_getD, List.getElem?_eq_getElem h]
  show itemT (a.getD 0 ⟨⟨#[]⟩, ⟨#[]⟩⟩) _ _ ++ _ = _
  rw [this]
theorem bodyT_more (a : List S27) (bl : List Int) (m : Nat) (h : m + 1 < a.length) : bodyT (dnI a bl (m + 2)) = itemT a[m + 1] (blkN bl (2 + (m + 1))) (blkN bl (3 + (m + 1))) ++ (sp (blkN bl (4 + (m + 1))) ++ 44 :: (sp (blkN bl (5 + (m + 1))) ++ bodyT (dnI a bl (m + 1)))) := by
  have : a.getD (m + 1) ⟨⟨#[]⟩, ⟨#[]⟩⟩ = a[m + 1] := by simp [List.getD_eq_getElem?_getD, List.getElem?_eq_getElem h]
  show itemT (a.getD (m + 1) ⟨⟨#[]⟩, ⟨#[]⟩⟩) _ _ ++ _ = _
  rw [this]
  rfl
/-- The text behind some of the labels: what is read, and what is still to come. -/
structure SoFar (a : List S27) (bl : List Int) (m : Nat) (s : ByteArray) : Prop where
  text : s.data.toList ++ bodyT (dnI a bl m) = sp (blkN bl 0) ++ 123 :: (sp (blkN bl 1) ++ bodyT (dnI a bl a.length))
  size : s.size ≤ 100 + 2000 * (a.length - m)
theorem app_list (a b : ByteArray) : (a ++ b).data.toList = a.data.toList ++ b.data.toList := by
  rw [ByteArray.data_append, Array.toList_append]
theorem soFar_start (a : List S27) (bl : List Int) : SoFar a bl a.length (spB (blkN bl 0) ++ (⟨#[123]⟩ : ByteArray) ++ spB (blkN bl 1)) := by
  have h0 := blkN_le bl 0
  have h1 := blkN_le bl 1
  refine ⟨?_, ?_⟩
  · rw [app_list, app_list, spB_data, spB_data]
    simp
  · rw [ByteArray.size_append, ByteArray.size_append, spB_size, spB_size]
    show _ + 1 + _ ≤ _
    omega
/-- A label's piece. -/
def pieceB (x : S27) (k0 k1 k2 : Nat) (q : ByteArray) (s : ByteArray) : ByteArray := s ++ x.f0 ++ spB k0 ++ (⟨#[61]⟩ : ByteArray) ++ spB k1 ++ q ++ spB k2
theorem piece_data (x : S27) (k0 k1 k2 : Nat) (s : ByteArray) : (pieceB x k0 k1 k2 ⟨(quoteL x.f1).toArray⟩ s).data.toList = s.data.toList ++ (itemT x k0 k1 ++ sp k2) := by
  rw [pieceB, app_list, app_list, app_list, app_list, app_list, app_list, spB_data, spB_data, spB_data, itemT]
  simp
theorem piece_size (x : S27) (k0 k1 k2 : Nat) (q s : ByteArray) : (pieceB x k0 k1 k2 q s).size = s.size + x.f0.size + k0 + 1 + k1 + q.size + k2 := by
  rw [pieceB]
  simp only [ByteArray.size_append, spB_size]
  rfl
theorem soFar_last {a : List S27} {bl : List Int} {s : ByteArray} (h : 0 < a.length) (hs : SoFar a bl 1 s) (hg : goodL a[0] = true) : SoFar a bl 0 (pieceB a[0] (blkN bl 2) (blkN bl 3) (blkN bl 4) ⟨(quoteL a[0].f1).toArray⟩ s) := by
  refine ⟨?_, ?_⟩
  · rw [piece_data, ← hs.text, bodyT_last a bl h]
    simp [dnI, bodyT]
  · rw [piece_size]
    have h1 := goodL_sizes hg
    have h2 := quoteL_le a[0].f1
    have h3 := hs.size
    have h4 := blkN_le bl 2
    have h5 := blkN_le bl 3
    have h6 := blkN_le bl 4
    have h7 : (⟨(quoteL a[0].f1).toArray⟩ : ByteArray).size = (quoteL a[0].f1).length := by simp [ByteArray.size]
    omega
theorem soFar_more {a : List S27} {bl : List Int} {s : ByteArray} {m : Nat} (h : m + 1 < a.length) (hs : SoFar a bl (m + 2) s) (hg : goodL a[m + 1] = true) :
    SoFar a bl (m + 1) (pieceB a[m + 1] (blkN bl (2 + (m + 1))) (blkN bl (3 + (m + 1))) (blkN bl (4 + (m + 1))) ⟨(quoteL a[m + 1].f1).toArray⟩ s ++ (⟨#[44]⟩ : ByteArray) ++ spB (blkN bl (5 + (m + 1)))) := by
  refine ⟨?_, ?_⟩
  · rw [app_list, app_list, piece_data, spB_data, ← hs.text, bodyT_more a bl m h]
    simp
  · rw [ByteArray.size_append, ByteArray.size_append, piece_size, spB_size]
    have h1 := goodL_sizes hg
    have h2 := quoteL_le a[m + 1].f1
    have h3 := hs.size
    have h4 := blkN_le bl (2 + (m + 1))
    have h5 := blkN_le bl (3 + (m + 1))
    have h6 := blkN_le bl (4 + (m + 1))
    have h8 := blkN_le bl (5 + (m + 1))
    have h7 : (⟨(quoteL a[m + 1].f1).toArray⟩ : ByteArray).size = (quoteL a[m + 1].f1).length := by simp [ByteArray.size]
    have h9 : (⟨#[44]⟩ : ByteArray).size = 1 := rfl
    omega
/-- What Parse tells of the whole. -/
theorem blanks_parse {a : List S27} {bl : List Int} {s : ByteArray} (ha : isSetL a = true) (hs : SoFar a bl 0 s) :
    parseF (s ++ (⟨#[125]⟩ : ByteArray) ++ spB (blkN bl 6)) = (a, ⟨0, 0⟩) ∧
    parseF (s ++ (⟨#[125]⟩ : ByteArray) ++ spB (blkN bl 6) ++ (⟨#[125]⟩ : ByteArray)) = ([], ⟨134, ((s ++ (⟨#[125]⟩ : ByteArray) ++ spB (blkN bl 6)).size : Nat)⟩) := by
  have hn := dnI_names a bl (fun x hx => ((isSet_fit ha).1.1 x hx).1) a.length (Nat.le_refl _)
  have ht : (s ++ (⟨#[125]⟩ : ByteArray) ++ spB (blkN bl 6)).data.toList = blankT (blkN bl 0) (blkN bl 1) (blkN bl 6) (dnI a bl a.length) := by
    have h := hs.text
    rw [dnI, bodyT, List.append_nil] at h
    rw [app_list, app_list, h, spB_data, blankT]
    simp
  have hm : (dnI a bl a.length).map (·.x) = a.reverse := by rw [dnI_rev a bl _ (Nat.le_refl _), List.take_length]
  constructor
  · rw [parse_good hn ht, hm, set_of_set ha (List.reverse_perm a)]
  · rw [parse_behind (c := 125) (R := []) hn (by decide) (by rw [app_list, ht]), ← ht, data_length]

set_option maxHeartbeats 8000000 in
set_option maxRecDepth 100000 in
theorem labelBlanks_walk (A : Option Addr) (c : Nat) (l0 : List S27) (A1 : Option Addr) (c1 : Nat) (bl : List Int) (w : World) (hC : Kd.C k27 w A l0.length l0) (hlc : l0.length ≤ c) (hB : Kd.C (Kd.int .i64) w A1 bl.length bl) (hE : WE w) :
    Calls Tryd.prog 5 #[.agg #[.slice A l0.length c, .slice A1 bl.length c1]] w fun e w' => e = .returned (.bool true) ∧ Below w.heap.size w w' := by
  have hx0 := heap_alloc_new w (.cells #[.slice A l0.length c, .slice A1 bl.length c1] 46)
  have hb0 := (Below.refl w.heap.size w).alloc (Nat.le_refl _) (.cells #[.slice A l0.length c, .slice A1 bl.length c1] 46)
  have F := few_calls A c l0 (w.alloc (.cells #[.slice A l0.length c, .slice A1 bl.length c1] 46)) (Kd.C_below hC hb0) hlc
  have HN := fewL_len l0
  revert F HN
  generalize fewL l0 = l
  intro F HN
  have HF := Lib.hid F
  have HX0 := Lib.hid hx0
  have HB0 := Lib.hid hb0
  have HE0 := Lib.hid (hE.below hb0)
  have HI0 := Lib.hid (Kd.C_below hB hb0)
  clear F hx0 hb0 hE hC hB
  go_enter Tryd.func5, Tryd.ntmps5
  go_wp2_with fail
  refine HF.out.mono ?_
  clear HF
  rintro e w1 ⟨v1, rfl, hR1, hb1⟩
  obtain ⟨A2, c2, rfl⟩ := Kd.R_slice hR1
  have HX1 := Lib.hid ((hb1.block w.heap.size (Array.getElem?_eq_some_iff.1 HX0.out).1).trans HX0.out)
  have HB1 := Lib.hid (HB0.out.trans (hb1.mono HB0.out.size))
  have HE1 := Lib.hid (HE0.out.below hb1)
  have HI1 := Lib.hid (Kd.C_below HI0.out hb1)
  have HS1 := Lib.hid (set_calls A2 c2 l w1 (Kd.R_reads' hR1).2.2 (Kd.R_reads' hR1).2.1 (by omega))
  clear HX0 HB0 HE0 HI0 hb1 hR1
  go_wp2_with fail
  refine HS1.out.mono ?_
  clear HS1
  rintro e w2 ⟨v2, rfl, hR2, hb2⟩
  obtain ⟨A3, c3, rfl⟩ := Kd.R_slice hR2
  have hx2 := (hb2.block w.heap.size (Array.getElem?_eq_some_iff.1 HX1.out).1).trans HX1.out
  have HX2 := Lib.hid hx2
  have HB2 := Lib.hid (HB1.out.trans (hb2.mono HB1.out.size))
  have HE2 := Lib.hid (HE1.out.below hb2)
  have HI2 := Lib.hid (Kd.C_below HI1.out hb2)
  have HC2 := Lib.hid (Kd.R_reads' hR2).2.2
  have HL2 := Lib.hid (Kd.R_reads' hR2).2.1
  have HSS := Lib.hid (show (setL l).2 = 0 → isSetL (setL l).1 = true from fun h => isSet_set h)
  have hal : (setL l).1.length ≤ 16 := set_len l
  clear HX1 HB1 HE1 HI1 hb2 hR2 hx2
  generalize (setL l).2 = e at *
  generalize (setL l).1 = a at *
  rcases Classical.em (e = 0) with h0 | h0
  · subst h0
    have HSA := Lib.hid (HSS.out rfl)
    clear HSS
    go_wp2_with (go_at_call 12; (with_reducible refine (num_calls _ _).mono ?_); rintro en wx ⟨rfl, hwx⟩; subst wx)
    have hs2 := HB2.out.size
    have BC := Lib.hid (fun (i : Nat) (hi : i ≤ 1000) (W : World) (hW : Below w2.heap.size w2 W) => blanks19_calls A l0.length c A1 c1 bl i W (Kd.C_below HI2.out hW) hi)
    have hc0 := cell_at HX2.out 0
    have hc1 := cell_at HX2.out 1
    have L0 : ∀ p : BelowAt w2.heap.size w2, p.u.cell? ⟨w.heap.size, 0, none⟩ = some (.slice A l0.length c) := fun p => pw_cell_below p.h hc0
    have L1 : ∀ p : BelowAt w2.heap.size w2, p.u.cell? ⟨w.heap.size, 1, none⟩ = some (.slice A1 bl.length c1) := fun p => pw_cell_below p.h hc1
    have C0 := Lib.hid (fun (p : BelowAt w2.heap.size w2) => show Calls Tryd.prog 19 #[.agg #[.slice A l0.length c, .slice A1 bl.length c1], .int .i64 0] p.u _ from BC.out 0 (by omega) p.u p.h)
    have C1 := Lib.hid (fun (p : BelowAt w2.heap.size w2) => show Calls Tryd.prog 19 #[.agg #[.slice A l0.length c, .slice A1 bl.length c1], .int .i64 1] p.u _ from BC.out 1 (by omega) p.u p.h)
    have HST := soFar_start a bl
    have hk0 : (spB (blkN bl 0)).size ≤ 3 := by rw [spB_size]; exact blkN_le bl 0
    have hk1 : (spB (blkN bl 1)).size ≤ 3 := by rw [spB_size]; exact blkN_le bl 1
    generalize spB (blkN bl 0) = b0 at *
    generalize spB (blkN bl 1) = b1 at *
    have hA1 : ¬ (9223372036854775807 < b0.size + 1) := by omega
    have hA2 : ¬ (9223372036854775807 < b0.size + 1 + b1.size) := by omega
    have HST2 := Lib.hid HST
    clear HST hc0 hc1
    refine wp_region_quiet_below w2.heap.size w2 (by kernel_rfl) (by kernel_rfl) (Below.refl _ _) ?_
    repeat go_big_quiet_step (first | (go_at_call 19; with_reducible exact calls_below_of (Nat.le_refl _) (C0.out _)) | (go_at_call 19; with_reducible exact calls_below_of (Nat.le_refl _) (C1.out _)))
    refine wpQuiet_nil ?_
    rintro w3 ⟨⟨u3, hb3⟩, h3⟩
    obtain rfl : w3 = u3 := h3
    clear L0 L1 C0 C1 hA1 hA2
    go_wp2_with fail
    go_loopw [5, 6] (fun v5 v6 wr => ∃ (m : Nat) (n : Int) (s : ByteArray), v6 = .int .i64 n ∧ n = (m : Int) - 1 ∧ m ≤ a.length ∧ v5 = .string s ∧ Hid (SoFar a bl m s) ∧ Below w2.heap.size w2 wr) (fun _ v _ => (intOf v + 1).toNat)
    case atStart => exact ⟨a.length, _, _, rfl, rfl, Nat.le_refl _, rfl, HST2, hb3⟩
    case round =>
      clear hb3 hk0 hk1 HST2
      obtain ⟨m, n, s, rfl, hn, hm, rfl, hs, hbw⟩ := hrel
      have hsz := hs.out.size
      have hsz2 : s.size ≤ 40000 := by omega
      clear hsz
      rcases m with _ | m
      · obtain rfl : n = -1 := by omega
        clear hn
        have HPP := Lib.hid (blanks_parse HSA.out hs.out)
        have C6 := Lib.hid (show Calls Tryd.prog 19 #[.agg #[.slice A l0.length c, .slice A1 bl.length c1], .int .i64 6] wr _ from BC.out 6 (by omega) wr hbw)
        have hx3 := (hbw.block w.heap.size (Array.getElem?_eq_some_iff.1 HX2.out).1).trans HX2.out
        have hk6 : (spB (blkN bl 6)).size ≤ 3 := by rw [spB_size]; exact blkN_le bl 6
        generalize spB (blkN bl 6) = b6 at *
        have hA1 : ¬ (9223372036854775807 < s.size + 1) := by omega
        have hA2 : ¬ (9223372036854775807 < s.size + 1 + b6.size) := by omega
        have hA3 : ¬ (9223372036854775807 < s.size + 1 + b6.size + 1) := by omega
        have hc0 := cell_at hx3 0
        have hc1 := cell_at hx3 1
        clear hs hx3
        go_wp2_with fail
        refine C6.out.mono ?_
        clear C6
        rintro en w4 ⟨rfl, hb4⟩
        have hbw4 := hbw.trans (hb4.mono hbw.size)
        clear hbw hb4 hc0 hc1
        go_wp2_with fail
        obtain ⟨hp1, hp2⟩ := HPP.out
        have hT1 : (s ++ (⟨#[125]⟩ : ByteArray) ++ b6).size ≤ 50000 := by rw [ByteArray.size_append, ByteArray.size_append]; show _ + 1 + _ ≤ _; omega
        have P1 := parse_calls (s ++ (⟨#[125]⟩ : ByteArray) ++ b6) w4 (by omega)
        have hT2 : (s ++ (⟨#[125]⟩ : ByteArray) ++ b6 ++ (⟨#[125]⟩ : ByteArray)).size ≤ 50001 := by rw [ByteArray.size_append]; show _ + 1 ≤ _; omega
        have P2 := fun (W : World) => parse_calls (s ++ (⟨#[125]⟩ : ByteArray) ++ b6 ++ (⟨#[125]⟩ : ByteArray)) W (by omega)
        rw [hp1] at P1
        rw [hp2] at P2
        have HP2 := Lib.hid P2
        clear P2 HPP hp1 hp2
        refine P1.mono ?_
        clear P1
        rintro en w5 ⟨v5, rfl, hR5, hb5⟩
        obtain ⟨A5, c5, rfl⟩ := Kd.R_slice hR5
        have hbw5 := hbw4.trans (hb5.mono hbw4.size)
        have HR5 := Lib.hid hR5
        clear hb5 hbw4 hR5
        go_wp2_with fail
        have hx6 := heap_alloc_new w5 (.cells #[.int .i64 0, .int .i64 0] 49)
        have hb6 := (Below.refl w5.heap.size w5).alloc (Nat.le_refl _) (.cells #[.int .i64 0, .int .i64 0] 49)
        have hbw6 := hbw5.trans (hb6.mono hbw5.size)
        have HC6 := Lib.hid (Kd.C_below (Kd.R_reads' HR5.out).2.2 hb6)
        have HL6 := Lib.hid (Kd.R_reads' HR5.out).2.1
        have HX6 := Lib.hid hx6
        generalize hg5 : w5.heap.size = g5 at *
        generalize hw6 : w5.alloc (.cells #[.int .i64 0, .int .i64 0] 49) = w6 at *
        clear hg5 hw6 hb6 hbw5 HR5 hx6
        refine (HP2.out w6).mono ?_
        clear HP2
        rintro en w7 ⟨v7, rfl, hR7, hb7⟩
        obtain ⟨A7, c7, rfl⟩ := Kd.R_slice hR7
        have hbw7 := hbw6.trans (hb7.mono hbw6.size)
        have HX7 := Lib.hid ((hb7.block g5 (Array.getElem?_eq_some_iff.1 HX6.out).1).trans HX6.out)
        have HC7 := Lib.hid (Kd.C_below HC6.out hb7)
        clear hb7 hbw6 hR7 HC6 HX6
        generalize hT : s ++ (⟨#[125]⟩ : ByteArray) ++ b6 = T at *
        have HTT := Lib.hid hT
        clear hT
        have hx8 := heap_alloc_new w7 (.cells #[.int .i64 134, .int .i64 (T.size : Nat)] 49)
        have hb8 := (Below.refl w7.heap.size w7).alloc (Nat.le_refl _) (.cells #[.int .i64 134, .int .i64 (T.size : Nat)] 49)
        have hcA : ∀ o, (w7.alloc o).cell? ⟨g5, 0, none⟩ = some (.int .i64 0) := fun o => pw_cell_below ((Below.refl w7.heap.size w7).alloc (Nat.le_refl _) o) (cell_at HX7.out 0)
        have hcB : ∀ o, (w7.alloc o).cell? ⟨g5, 1, none⟩ = some (.int .i64 0) := fun o => pw_cell_below ((Below.refl w7.heap.size w7).alloc (Nat.le_refl _) o) (cell_at HX7.out 1)
        have hbw8 := hbw7.trans (hb8.mono hbw7.size)
        have EQ0 := eqLabels_calls A3 c3 a A5 c5 a (w7.alloc (.cells #[.int .i64 134, .int .i64 (T.size : Nat)] 49)) (Kd.C_below HC2.out hbw8) HL2.out (Kd.C_below HC7.out hb8) HL6.out (by omega)
        rw [eqLB_self] at EQ0
        have EQ := Lib.hid EQ0
        have HX8 := Lib.hid hx8
        have HBW8 := Lib.hid hbw8
        clear EQ0 hx8 hb8 hbw8 hbw7
        go_wp2_with fail
        refine EQ.out.mono ?_
        clear EQ
        rintro en w9 ⟨rfl, hb9⟩
        have hx9 := (hb9.block w7.heap.size (Array.getElem?_eq_some_iff.1 HX8.out).1).trans HX8.out
        have hbw9 := HBW8.out.trans (hb9.mono HBW8.out.size)
        have hc90 := cell_at hx9 0
        have hc91 := cell_at hx9 1
        have hbz := HB2.out.trans (hbw9.mono HB2.out.size)
        have W9 := Lib.hid (works_calls w9 (HE2.out.below hbw9))
        clear hcA hcB hb9 HX8 HBW8 hbw9 hx9
        go_wp2_with (first | (go_at_call 12; (with_reducible refine (num_calls _ _).mono ?_); rintro en wx ⟨rfl, hwx⟩; subst wx))
        refine W9.out.mono ?_
        rintro en w10 ⟨rfl, hb10⟩
        go_wp2
        go_ret
        exact ⟨rfl, hbz.trans (hb10.mono hbz.size)⟩
      · obtain rfl : n = (m : Int) := by omega
        clear hn
        obtain ⟨ad, eA, h0, h1⟩ := at_N HC2.out m (by omega)
        subst eA
        have hg : goodL a[m] = true := (isSetL_all' HSA.out).2.1 a[m] (List.getElem_mem _)
        have hgs := goodL_sizes hg
        have hql := quoteL_le a[m].f1
        have HSO := Lib.hid (show (m = 0 → SoFar a bl 0 (pieceB a[m] (blkN bl (2 + m)) (blkN bl (3 + m)) (blkN bl (4 + m)) ⟨(quoteL a[m].f1).toArray⟩ s)) ∧ (0 < m → SoFar a bl m (pieceB a[m] (blkN bl (2 + m)) (blkN bl (3 + m)) (blkN bl (4 + m)) ⟨(quoteL a[m].f1).toArray⟩ s ++ (⟨#[44]⟩ : ByteArray) ++ spB (blkN bl (5 + m)))) from ⟨fun h => by
          subst h
          exact soFar_last (by omega) hs.out hg, fun h => by
          obtain ⟨k, rfl⟩ : ∃ k, m = k + 1 := ⟨m - 1, by omega⟩
          exact soFar_more (by omega) hs.out hg⟩)
        have Q := Lib.hid (fun (p : BelowAt wr.heap.size wr) => quote_any a[m].f1 p.u (by omega) (Or.inl (HE2.out.below (hbw.trans (p.h.mono hbw.size))).tabs))
        have D2 := Lib.hid (fun (p : BelowAt wr.heap.size wr) => show Calls Tryd.prog 19 #[.agg #[.slice A l0.length c, .slice A1 bl.length c1], .int .i64 (2 + (m : Int))] p.u (fun e w' => e = .returned (.string (spB (blkN bl (2 + m)))) ∧ Below p.u.heap.size p.u w') by
          have := BC.out (2 + m) (by omega) p.u (hbw.trans (p.h.mono hbw.size))
          rwa [show ((2 + m : Nat) : Int) = 2 + (m : Int) by omega] at this)
        have D3 := Lib.hid (fun (p : BelowAt wr.heap.size wr) => show Calls Tryd.prog 19 #[.agg #[.slice A l0.length c, .slice A1 bl.length c1], .int .i64 (3 + (m : Int))] p.u (fun e w' => e = .returned (.string (spB (blkN bl (3 + m)))) ∧ Below p.u.heap.size p.u w') by
          have := BC.out (3 + m) (by omega) p.u (hbw.trans (p.h.mono hbw.size))
          rwa [show ((3 + m : Nat) : Int) = 3 + (m : Int) by omega] at this)
        have D4 := Lib.hid (fun (p : BelowAt wr.heap.size wr) => show Calls Tryd.prog 19 #[.agg #[.slice A l0.length c, .slice A1 bl.length c1], .int .i64 (4 + (m : Int))] p.u (fun e w' => e = .returned (.string (spB (blkN bl (4 + m)))) ∧ Below p.u.heap.size p.u w') by
          have := BC.out (4 + m) (by omega) p.u (hbw.trans (p.h.mono hbw.size))
          rwa [show ((4 + m : Nat) : Int) = 4 + (m : Int) by omega] at this)
        have D5 := Lib.hid (fun (W : World) (hW : Below w2.heap.size w2 W) => show Calls Tryd.prog 19 #[.agg #[.slice A l0.length c, .slice A1 bl.length c1], .int .i64 (5 + (m : Int))] W (fun e w' => e = .returned (.string (spB (blkN bl (5 + m)))) ∧ Below W.heap.size W w') by
          have := BC.out (5 + m) (by omega) W hW
          rwa [show ((5 + m : Nat) : Int) = 5 + (m : Int) by omega] at this)
        unfold pieceB at HSO
        have hq2 : (⟨(quoteL a[m].f1).toArray⟩ : ByteArray).size ≤ 2000 := by
          have h3 : (⟨(quoteL a[m].f1).toArray⟩ : ByteArray).size = (quoteL a[m].f1).length := by simp [ByteArray.size]
          omega
        have hk2 : (spB (blkN bl (2 + m))).size ≤ 3 := by rw [spB_size]; exact blkN_le bl _
        have hk3 : (spB (blkN bl (3 + m))).size ≤ 3 := by rw [spB_size]; exact blkN_le bl _
        have hk4 : (spB (blkN bl (4 + m))).size ≤ 3 := by rw [spB_size]; exact blkN_le bl _
        have hk5 : (spB (blkN bl (5 + m))).size ≤ 3 := by rw [spB_size]; exact blkN_le bl _
        have hx3 := (hbw.block w.heap.size (Array.getElem?_eq_some_iff.1 HX2.out).1).trans HX2.out
        have HX3 := Lib.hid hx3
        have h0' := pw_cell_below hbw h0
        have h1' := pw_cell_below hbw h1
        clear hg hql hs hx3 h0 h1
        generalize a[m] = x at *
        generalize (⟨(quoteL x.f1).toArray⟩ : ByteArray) = q at *
        generalize spB (blkN bl (2 + m)) = k2 at *
        generalize spB (blkN bl (3 + m)) = k3 at *
        generalize spB (blkN bl (4 + m)) = k4 at *
        generalize spB (blkN bl (5 + m)) = k5 at *
        have hA1 : ¬ (9223372036854775807 < s.size + x.f0.size) := by omega
        have hA2 : ¬ (9223372036854775807 < s.size + x.f0.size + k2.size) := by omega
        have hA3 : ¬ (9223372036854775807 < s.size + x.f0.size + k2.size + 1) := by omega
        have hA4 : ¬ (9223372036854775807 < s.size + x.f0.size + k2.size + 1 + k3.size) := by omega
        have hA5 : ¬ (9223372036854775807 < s.size + x.f0.size + k2.size + 1 + k3.size + q.size) := by omega
        have hA6 : ¬ (9223372036854775807 < s.size + x.f0.size + k2.size + 1 + k3.size + q.size + k4.size) := by omega
        have hA7 : ¬ (9223372036854775807 < s.size + x.f0.size + k2.size + 1 + k3.size + q.size + k4.size + 1) := by omega
        have hA8 : ¬ (9223372036854775807 < s.size + x.f0.size + k2.size + 1 + k3.size + q.size + k4.size + 1 + k5.size) := by omega
        have hc0 := cell_at HX3.out 0
        have hc1 := cell_at HX3.out 1
        have L0 : ∀ p : BelowAt wr.heap.size wr, p.u.cell? ⟨w.heap.size, 0, none⟩ = some (.slice A l0.length c) := fun p => pw_cell_below p.h hc0
        have L1 : ∀ p : BelowAt wr.heap.size wr, p.u.cell? ⟨w.heap.size, 1, none⟩ = some (.slice A1 bl.length c1) := fun p => pw_cell_below p.h hc1
        have L2 : ∀ p : BelowAt wr.heap.size wr, p.u.cell? (ad.add (m * 2)) = some (.string x.f0) := fun p => pw_cell_below p.h h0'
        have L3 : ∀ p : BelowAt wr.heap.size wr, p.u.cell? ⟨(ad.add (m * 2)).block, (ad.add (m * 2)).off + 1, none⟩ = some (.string x.f1) := fun p => pw_cell_below p.h h1'
        have hi1 : (0 : Int) ≤ (m : Int) := by omega
        have hi2 : (m : Int) < (a.length : Int) := by omega
        clear h0' h1' hc0 hc1
        go_wp2_with fail
        refine wp_region_quiet_below wr.heap.size wr (by kernel_rfl) (by kernel_rfl) (Below.refl _ _) ?_
        repeat go_big_quiet_step (first | (go_at_call 19; with_reducible exact calls_below_of (Nat.le_refl _) (D2.out _)) | (go_at_call 19; with_reducible exact calls_below_of (Nat.le_refl _) (D3.out _)) | (go_at_call 19; with_reducible exact calls_below_of (Nat.le_refl _) (D4.out _)) | (go_at_call 17; with_reducible exact calls_below_of (Nat.le_refl _) (Q.out _)))
        refine wpQuiet_nil ?_
        rintro w4 ⟨⟨u4, hb4⟩, h4⟩
        obtain rfl : w4 = u4 := h4
        have hbw4 := hbw.trans (hb4.mono hbw.size)
        have hx4 := (hb4.block w.heap.size (Array.getElem?_eq_some_iff.1 HX3.out).1).trans HX3.out
        have hc0 := cell_at hx4 0
        have hc1 := cell_at hx4 1
        clear L0 L1 L2 L3 hb4 hbw HX3
        by_cases hm0 : 0 < m
        · have hd : decide (0 < (m : Int)) = true := decide_eq_true (by omega)
          go_wp2_with fail
          refine (D5.out w4 hbw4).mono ?_
          rintro en w5 ⟨rfl, hb5⟩
          have hbw5 := hbw4.trans (hb5.mono hbw4.size)
          go_wp2
          go_roundw
          case rel => exact ⟨m, _, _, rfl, rfl, by omega, rfl, Lib.hid (HSO.out.2 hm0), hbw5⟩
          case measure => simp [intOf]
        · have hd : decide (0 < (m : Int)) = false := decide_eq_false (by omega)
          go_wp2
          go_roundw
          case rel => exact ⟨0, _, _, rfl, by omega, by omega, rfl, Lib.hid (HSO.out.1 (by omega)), hbw4⟩
          case measure => simp [intOf]
  · have hze : ((e : Int) != 0) = true := by simpa using h0
    clear HSS
    go_wp2_with (go_at_call 12; (with_reducible refine (num_calls _ _).mono ?_); rintro en wx ⟨rfl, hwx⟩; subst wx)
    refine (works_calls w2 HE2.out).mono ?_
    rintro en w3 ⟨rfl, hb3⟩
    go_wp2
    go_ret
    exact ⟨rfl, HB2.out.trans (hb3.mono HB2.out.size)⟩
theorem opens44 : Opens (Kd.slice 3 (Kd.int .i64)) 44 := opens_slice Tryd.underlying44 (by kernel_rfl) (opens_int Tryd.underlying3)
end Go.Proofs.YtkanfffbdegfoaaDoor.PD
