/- fathomlaw13.LabelTurned: for every argument it returns true; what was there is as it was. No condition but the environment's (the tables). -/
import Derived.Test.YtkanfffbdegfoaaDoorKU
namespace Go.Proofs.YtkanfffbdegfoaaDoor.PD
set_option linter.unusedVariables false
set_option linter.unusedSimpArgs false
open Go.RowKit Go.Proofs.YtkanfffbdegfoaaDoorW.PrintWords Go.Proofs.YtkanfffbdegfoaaDoorW.PrintLast Go.Proofs.YtkanfffbdegfoaaDoorW.PrintMore

/-- Labels, turned. -/
def rotL (l : List S27) (t : Nat) : List S27 := l.drop t ++ l.take t
theorem rot_len (l : List S27) (t : Nat) (_ht : t ≤ l.length) : (rotL l t).length = l.length := by
  rw [rotL, List.length_append, List.length_drop, List.length_take]
  omega
theorem rot_perm (l : List S27) (t : Nat) : (rotL l t).Perm l := by
  have h := List.perm_append_comm (l₁ := l.drop t) (l₂ := l.take t)
  rw [List.take_append_drop] at h
  exact h
theorem rot_get (l : List S27) (t i : Nat) (ht : t < l.length) (hi : i < l.length) : (rotL l t)[i]'(by rw [rot_len l t (by omega)]; exact hi) = l[(i + t) % l.length]'(Nat.mod_lt _ (by omega)) := by
  unfold rotL
  by_cases h : i < l.length - t
  · rw [List.getElem_append_left (by rw [List.length_drop]; exact h), List.getElem_drop]
    congr 1
    rw [Nat.mod_eq_of_lt (by omega)]
    omega
  · rw [List.getElem_append_right (by rw [List.length_drop]; omega), List.getElem_take]
    congr 1
    rw [List.length_drop, show i + t = l.length + (i - (l.length - t)) by omega, Nat.add_mod_left, Nat.mod_eq_of_lt (by omega)]

theorem flat27_append : ∀ (a b : List S27), flat27 (a ++ b) = flat27 a ++ flat27 b
  | [], b => rfl
  | x :: a, b => by
    show Value.string x.f0 :: Value.string x.f1 :: flat27 (a ++ b) = _
    rw [flat27_append a b]
    rfl
theorem flat27_set (l : List S27) (i : Nat) (_hi : i < l.length) (x : S27) : flat27 (l.set i x) = ((flat27 l).set (i * 2) (.string x.f0)).set (i * 2 + 1) (.string x.f1) := by
  apply List.ext_getElem?
  intro t
  by_cases ht : t < l.length * 2
  · rw [flat27_get _ t (by rw [List.length_set]; exact ht)]
    have hlt : t / 2 < l.length := by omega
    rw [getElem!_pos (l.set i x) (t / 2) (by rw [List.length_set]; exact hlt), List.getElem_set]
    rw [List.getElem?_set, List.getElem?_set]
    simp only [List.length_set, flat27_len]
    by_cases h1 : i * 2 + 1 = t
    · subst h1
      rw [if_pos rfl, if_pos ht, if_pos (by omega), show (i * 2 + 1) % 2 = 1 by omega]
      rfl
    · rw [if_neg h1]
      by_cases h2 : i * 2 = t
      · subst h2
        rw [if_pos rfl, if_pos ht, if_pos (by omega), show (i * 2) % 2 = 0 by omega]
        rfl
      · rw [if_neg h2, if_neg (by omega), flat27_get _ t ht, getElem!_pos l (t / 2) hlt]
  · rw [List.getElem?_eq_none (by rw [flat27_len, List.length_set]; omega), List.getElem?_eq_none (by rw [List.length_set, List.length_set, flat27_len]; omega)]
/-- A label stored into a row of the call's own. -/
theorem R27_put {w : World} {base g n cap : Nat} {ok : Nat → Prop} {xs : List S27} (h : Kd.R k27 27 w base ok (.slice (some ⟨g, 0, none⟩) n cap) xs) (i : Nat) (hi : i < xs.length) (x : S27) :
    Kd.R k27 27 ((w.setCell ⟨g, i * 2, none⟩ (.string x.f0)).setCell ⟨g, i * 2 + 1, none⟩ (.string x.f1)) base ok (.slice (some ⟨g, 0, none⟩) n cap) (xs.set i x) := by
  have hok := h.1
  obtain ⟨hsz0, h2⟩ := own27 h
  refine ofOwn27 ?_ hok
  rcases h2 with ⟨h0, _⟩ | ⟨g', cap', cur, hv, hb, hh, hn, hcap, hsz, htk⟩
  · cases h0
  · injection hv with hA hN hC
    injection hA with hA
    injection hA with hg
    subst hg hN hC
    refine ⟨by rw [flat27_len, List.length_set], .inr ⟨g, cap, (cur.setIfInBounds (i * 2) (.string x.f0)).setIfInBounds (i * 2 + 1) (.string x.f1), by rw [List.length_set], hb, ?_, by rw [List.length_set]; exact hn, hcap, by simpa using hsz, ?_⟩⟩
    · simp [World.setCell, Array.getElem?_modify, hh]
    · rw [flat27_set xs i hi, ← htk, List.length_set]
      simp [List.take_set]

theorem set_bad {l : List S27} (h : ¬ (setL l).2 = 0) : (setL l).1 = [] := by
  unfold setL at h ⊢
  by_cases h1 : setE [] l ≠ 0
  · rw [if_pos h1]
  · rw [if_neg h1] at h ⊢
    by_cases h2 : 16 < (full l).length
    · rw [if_pos h2]
    · rw [if_neg h2] at h
      exact absurd rfl h
theorem set_len (l : List S27) : (setL l).1.length ≤ 16 := by
  by_cases h : (setL l).2 = 0
  · rw [(set_ok h).2.2, srtL_len]
    exact (set_ok h).2.1
  · rw [set_bad h]
    exact Nat.zero_le _
/-- A row of the call's own that holds something: where it lies. -/
theorem R27_some {w : World} {base n c : Nat} {ok : Nat → Prop} {A : Option Addr} {xs : List S27} (h : Kd.R k27 27 w base ok (.slice A n c) xs) (hp : 0 < xs.length) :
    ∃ g, A = some ⟨g, 0, none⟩ ∧ base ≤ g ∧ g < w.heap.size ∧ (∀ o, w.frozen? ⟨g, o, none⟩ = false) ∧ ∀ i (hi : i < xs.length), w.cell? ⟨g, i * 2, none⟩ = some (.string xs[i].f0) ∧ w.cell? ⟨g, i * 2 + 1, none⟩ = some (.string xs[i].f1) := by
  obtain ⟨hsz0, h2⟩ := own27 h
  rcases h2 with ⟨h0, h1⟩ | ⟨g', cap', cur, hv, hb, hh, hn, hcap, hsz, htk⟩
  · omega
  · injection hv with hA hN hC
    subst hA
    refine ⟨g', rfl, hb, (Array.getElem?_eq_some_iff.1 hh).1, fun o => by simp [World.frozen?, hh], fun i hi => ?_⟩
    have key : ∀ j, j < xs.length * 2 → w.cell? ⟨g', j, none⟩ = (flat27 xs)[j]? := by
      intro j hj
      rw [← htk, List.getElem?_take_of_lt (by omega), Array.getElem?_toList]
      simp [World.cell?, hh]
    rw [key (i * 2) (by omega), key (i * 2 + 1) (by omega), flat27_get _ _ (by omega), flat27_get _ _ (by omega), show i * 2 / 2 = i by omega, show (i * 2 + 1) / 2 = i by omega, show i * 2 % 2 = 0 by omega, show (i * 2 + 1) % 2 = 1 by omega, getElem!_pos xs i hi]
    exact ⟨rfl, rfl⟩
set_option maxHeartbeats 8000000 in
set_option maxRecDepth 100000 in
theorem labelTurned_walk (A : Option Addr) (c : Nat) (l0 : List S27) (tn : Int) (bk : Bool) (w : World) (hC : Kd.C k27 w A l0.length l0) (hlc : l0.length ≤ c) (hE : WE w) :
    Calls Tryd.prog 3 #[.agg #[.slice A l0.length c, .int .i64 tn, .bool bk]] w fun e w' => e = .returned (.bool true) ∧ Below w.heap.size w w' := by
  have hx0 := heap_alloc_new w (.cells #[.slice A l0.length c, .int .i64 tn, .bool bk] 24)
  have hb0 := (Below.refl w.heap.size w).alloc (Nat.le_refl _) (.cells #[.slice A l0.length c, .int .i64 tn, .bool bk] 24)
  have F := few_calls A c l0 (w.alloc (.cells #[.slice A l0.length c, .int .i64 tn, .bool bk] 24)) (Kd.C_below hC hb0) hlc
  have HN := fewL_len l0
  revert F HN
  generalize fewL l0 = l
  intro F HN
  have HF := Lib.hid F
  have HX0 := Lib.hid hx0
  have HB0 := Lib.hid hb0
  have HE0 := Lib.hid (hE.below hb0)
  clear F hx0 hb0 hE hC
  go_enter Tryd.func3, Tryd.ntmps3
  go_wp2_with fail
  refine HF.out.mono ?_
  clear HF
  rintro e w1 ⟨v1, rfl, hR1, hb1⟩
  obtain ⟨A1, c1, rfl⟩ := Kd.R_slice hR1
  have HX1 := Lib.hid ((hb1.block w.heap.size (Array.getElem?_eq_some_iff.1 HX0.out).1).trans HX0.out)
  have HB1 := Lib.hid (HB0.out.trans (hb1.mono HB0.out.size))
  have HE1 := Lib.hid (HE0.out.below hb1)
  have HC1 := Lib.hid (Kd.R_reads' hR1).2.2
  have HL1 := Lib.hid (Kd.R_reads' hR1).2.1
  clear HX0 HB0 HE0 hb1 hR1
  obtain ⟨t, ht⟩ : ∃ t, t = (withinV tn l.length).toNat := ⟨_, rfl⟩
  have HT := Lib.hid (show 0 < l.length → withinV tn l.length = (t : Int) ∧ t < l.length from fun h => by have := withinV_at tn l.length (by omega); omega)
  clear ht
  have hs1 := HB1.out.size
  go_wp2_with fail
  go_loopw [4, 5] (fun v4 v5 wr => ∃ k : Nat, v5 = .int .i64 k ∧ k ≤ l.length ∧ Hid (Kd.R k27 27 wr w1.heap.size (fun _ => True) v4 ((rotL l t).take k)) ∧ Below w1.heap.size w1 wr) (fun _ v _ => l.length - (intOf v).toNat)
  case atStart => exact ⟨0, rfl, by omega, Lib.hid (Kd.R_nil _ _ _ _ _), Below.refl _ _⟩
  case round =>
    obtain ⟨k, rfl, hk, hR, hbw⟩ := hrel
    by_cases hlt : k < l.length
    · obtain ⟨ht1, ht2⟩ := HT.out (by omega)
      have hxr := (hbw.block w.heap.size (Array.getElem?_eq_some_iff.1 HX1.out).1).trans HX1.out
      have hc1 := cell_at hxr 1
      have W := within_calls tn l.length wr (by omega) (by omega)
      rw [ht1] at W
      have HW := Lib.hid W
      clear W ht1
      have hrt : (rotL l t).length = l.length := rot_len l t (by omega)
      have HRG := Lib.hid (show (rotL l t).take (k + 1) = (rotL l t).take k ++ [l[(k + t) % l.length]'(Nat.mod_lt _ (by omega))] by rw [List.take_succ_eq_append_getElem (by omega), rot_get l t k ht2 hlt])
      obtain ⟨ad, eA, h0, h1⟩ := at_N HC1.out ((k + t) % l.length) (Nat.mod_lt _ (by omega))
      subst eA
      have hml : (k + t) % l.length < l.length := Nat.mod_lt _ (by omega)
      have hmi : ((k : Int) + t) % l.length = (((k + t) % l.length : Nat) : Int) := by rw [Int.natCast_emod, Int.natCast_add]
      generalize l[(k + t) % l.length]'(Nat.mod_lt _ (by omega)) = x at *
      generalize (k + t) % l.length = j at *
      have HHR := Lib.hid hrt
      clear hrt
      go_wp2_with fail
      refine HW.out.mono ?_
      rintro e w2 ⟨rfl, hb2⟩
      have hbw2 := hbw.trans (hb2.mono hbw.size)
      have hR2 := Lib.hid (Kd.R_below hR.out hb2)
      have h0' := pw_cell_below hbw2 h0
      have h1' := pw_cell_below hbw2 h1
      clear hc1 hxr h0 h1 hR hb2 hbw
      go_wp2_with (at_builtin; refine Kd.R_append k27 (w0 := w1) w1.heap.size rfl (.tmp 24) (.tmp 38) 22 27 (.agg #[(.string ⟨#[]⟩), (.string ⟨#[]⟩)]) 32 rfl Tryd.underlying22 info27 rfl (by decide) (by omega) u4 ((rotL l t).take k) x [.string x.f0, .string x.f1] (fun _ => True) (fun _ => False) rfl rfl ?aP (fun _ hk => hk.elim) (fun _ _ => trivial) hR2.out hbw2 hbw2.size ?aL ?_; (case aP => exact k27_mkM _ _ _ _); (case aL => rw [List.length_take]; omega); rintro v9 w3 hR3 hb3 hg3 hat3)
      go_roundw
      case rel => exact ⟨k + 1, by go_num, by omega, Lib.hid (by rw [HRG.out]; exact hR3), hb3⟩
      case measure => simp [intOf]; omega
    · obtain rfl : k = l.length := by omega
      have HRL := Lib.hid (show 0 < l.length → (rotL l t).length = l.length from fun h => rot_len l t (by have := (HT.out h).2; omega))
      have htk : (rotL l t).take l.length = rotL l t := by
        by_cases h : 0 < l.length
        · rw [List.take_of_length_le (by rw [HRL.out h]; omega)]
        · have : l = [] := List.eq_nil_of_length_eq_zero (by omega)
          rw [this]; simp [rotL]
      rw [htk] at hR
      have HRL2 := Lib.hid (show (rotL l t).length = l.length from (rot_perm l t).length_eq)
      have HPM := Lib.hid (rot_perm l t)
      clear htk HRL
      obtain ⟨A4, c4, rfl⟩ := Kd.R_slice hR.out
      generalize rotL l t = rot at *
      obtain ⟨n, hn⟩ : ∃ n, n = rot.length := ⟨_, rfl⟩
      rw [← hn] at hR HRL2 ⊢
      have HN2 := Lib.hid hn
      clear hn
      have hn60 : n ≤ 60 := by have := HRL2.out; omega
      go_wp2_with fail
      go_loopw [6] (fun v6 wr => ∃ (i : Nat) (ms : List S27), v6 = .int .i64 i ∧ i ≤ 60 ∧ Hid (ms.Perm l ∧ ms.length = n) ∧ Hid (Kd.R k27 27 wr w1.heap.size (fun _ => True) (.slice A4 n c4) ms) ∧ Below w1.heap.size w1 wr) (fun v _ => 60 - (intOf v).toNat)
      case atStart => exact ⟨0, rot, rfl, by omega, Lib.hid ⟨HPM.out, HN2.out.symm⟩, hR, hbw⟩
      case round =>
        clear hR hbw
        obtain ⟨i, ms, rfl, hi60, hms, hR, hbw⟩ := hrel
        have hxr := (hbw.block w.heap.size (Array.getElem?_eq_some_iff.1 HX1.out).1).trans HX1.out
        by_cases hi : (i : Int) < (n : Int) / 2
        · have hc2 := cell_at hxr 2
          cases bk
          · have HS1 := Lib.hid (set_calls A1 c1 l wr (Kd.C_below HC1.out hbw) HL1.out (by omega))
            have HPL := Lib.hid (set_perm hms.out.1)
            clear HX1 hxr
            go_wp2_with fail
            refine HS1.out.mono ?_
            clear HS1
            rintro e w2 ⟨v8, rfl, hR8, hb2⟩
            have hbw2 := hbw.trans (hb2.mono hbw.size)
            have hR2 := Kd.R_below hR.out hb2
            have S2 := set_calls A4 c4 ms w2 (by have h := (Kd.R_reads' hR2); rw [hms.out.2] at h ⊢; exact h.2.2) (by have h := (Kd.R_reads' hR2); rw [hms.out.2] at h ⊢; exact h.2.1) (by have := hms.out.2; omega)
            rw [hms.out.2, HPL.out.1] at S2
            have HS2 := Lib.hid S2
            clear S2 hR2 hR hb2
            go_wp2_with fail
            refine HS2.out.mono ?_
            clear HS2
            rintro e w3 ⟨v10, rfl, hR10, hb3⟩
            have hbw3 := hbw2.trans (hb3.mono hbw2.size)
            have hR83 := Kd.R_below hR8 hb3
            clear hbw hbw2 hb3 hR8
            obtain ⟨A8, c8, rfl⟩ := Kd.R_slice hR83
            obtain ⟨A10, c10, rfl⟩ := Kd.R_slice hR10
            have H8 := Lib.hid hR83
            have H10 := Lib.hid hR10
            have HE3 := Lib.hid (HE1.out.below hbw3)
            have HBW3 := Lib.hid (HB1.out.trans (hbw3.mono HB1.out.size))
            have HCL := Lib.hid (Kd.C_below HC1.out hbw3)
            have HSE := Lib.hid (show ((setL l).2 = 0 → fitL l ∧ (setL l).1 = srtL (full l)) ∧ (¬ (setL l).2 = 0 → (setL l).1 = [] ) from ⟨fun h => ⟨(set_ok h).1, (set_ok h).2.2⟩, fun h => set_bad h⟩)
            have hal : (setL l).1.length ≤ 16 := set_len l
            have hms2 := hms.out.2
            have HEF := Lib.hid HPL.out.2
            clear hR83 hR10 HPL hbw3 hms HRL2 HN2 HPM
            generalize (setL ms).2 = f at *
            generalize (setL l).2 = e at *
            generalize hsl : (setL l).1 = a at *
            clear hsl
            have EQ0 := eqLabels_calls A8 c8 a A10 c10 a w3 (Kd.R_reads' H8.out).2.2 (Kd.R_reads' H8.out).2.1 (Kd.R_reads' H10.out).2.2 (Kd.R_reads' H10.out).2.1 (by omega)
            rw [eqLB_self] at EQ0
            have EQ := Lib.hid EQ0
            clear EQ0
            rcases Classical.em (e = 0) with h0 | h0
            · have hf0 : f = 0 := HEF.out.2 h0
              subst h0
              subst hf0
              clear HEF
              obtain ⟨hfit, hsa⟩ := HSE.out.1 rfl
              have HGET := Lib.hid (show ∀ i (h : i < l.length), getL a l[i].f0 = l[i].f1 from fun i h => by rw [hsa]; exact get_set hfit (List.getElem_mem h))
              have HASC := Lib.hid (show ∀ j (h : j + 1 < a.length), Lib.compareBytes a[j].f0.data.toList a[j + 1].f0.data.toList < 0 from (ascL_at a).1 (by rw [hsa]; exact set_asc hfit))
              have HLEN := Lib.hid (show a.length = (full l).length by rw [hsa, srtL_len])
              have HFA := Lib.hid (show ∀ i (h : i < l.length), (full (l.take (i + 1))).length = (full (l.take i)).length + (if l[i].f1.size = 0 then 0 else 1) from fun i h => by rw [full_at l i h]; split <;> simp)
              have HFL := Lib.hid (show (full l).length ≤ 60 from Nat.le_trans (full_le l) HN)
              have HFI := Lib.hid (show ∀ i, (full (l.take i)).length ≤ 60 from fun i => by have := full_le (l.take i); rw [List.length_take] at this; omega)
              clear hfit hsa HSE
              go_wp2_with (first | (go_at_call 12; (with_reducible refine (num_calls _ _).mono ?_); rintro en wx ⟨rfl, hwx⟩; subst wx))
              refine EQ.out.mono ?_
              rintro en w4 ⟨rfl, hb4⟩
              have HB4 := Lib.hid (HBW3.out.trans (hb4.mono HBW3.out.size))
              have HE4 := Lib.hid (HE3.out.below hb4)
              have HC4 := Lib.hid (Kd.C_below HCL.out hb4)
              have HA4 := Lib.hid (Kd.C_below (Kd.R_reads' H8.out).2.2 hb4)
              have HCA := Lib.hid (Kd.R_reads' H8.out).2.1
              clear hb4 HBW3 HE3 HCL H8 H10 EQ
              go_wp2_with fail
              go_loopw [12, 13] (fun v12 v13 wr => ∃ i : Nat, v13 = .int .i64 i ∧ i ≤ l.length ∧ v12 = .int .i64 ((full (l.take i)).length : Nat) ∧ Below w4.heap.size w4 wr) (fun _ v _ => l.length - (intOf v).toNat)
              case atStart => exact ⟨0, rfl, by omega, rfl, Below.refl _ _⟩
              case round =>
                obtain ⟨i5, rfl, hi5, rfl, hbx⟩ := hrel
                have hfi := HFI.out i5
                generalize hnf : (full (l.take i5)).length = nf at *
                have HNF := Lib.hid hnf
                clear hnf
                by_cases hlt5 : i5 < l.length
                · obtain ⟨ad, eA, h0, h1⟩ := at_N HC4.out i5 hlt5
                  subst eA
                  have h0' := pw_cell_below hbx h0
                  have h1' := pw_cell_below hbx h1
                  clear h0 h1
                  have G := fun (W : World) (hb : Below w4.heap.size w4 W) => label_Get.calls A8 c8 a l[i5].f0 l[i5].f1 W (Kd.C_below HA4.out hb) HCA.out (by rw [label_Get.f, if_pos (by omega), HGET.out i5 hlt5])
                  have HFK := Lib.hid (HFA.out i5 hlt5)
                  generalize l[i5] = x at *
                  have L0 : ∀ p : BelowAt wr.heap.size wr, p.u.cell? (ad.add (i5 * 2)) = some (.string x.f0) := fun p => pw_cell_below p.h h0'
                  have L1 : ∀ p : BelowAt wr.heap.size wr, p.u.cell? ⟨(ad.add (i5 * 2)).block, (ad.add (i5 * 2)).off + 1, none⟩ = some (.string x.f1) := fun p => pw_cell_below p.h h1'
                  have LG := Lib.hid (fun (p : BelowAt wr.heap.size wr) => G p.u (hbx.trans (p.h.mono hbx.size)))
                  clear G
                  by_cases hz : x.f1.size = 0
                  · have hz1 : (x.f1.toList == []) = true := isEmpty_yes _ hz
                    have HFK2 := Lib.hid (show (full (l.take (i5 + 1))).length = nf by rw [HFK.out, HNF.out, if_pos hz, Nat.add_zero])
                    clear hz
                    go_wp2_with (go_at_call 12; (with_reducible refine (num_calls _ _).mono ?_); rintro en wx ⟨rfl, hwx⟩; subst wx)
                    refine wp_region_quiet_below wr.heap.size wr (by kernel_rfl) (by kernel_rfl) (Below.refl _ _) ?_
                    repeat go_big_quiet_step (first | (go_at_call 14; exact calls_below_of (Nat.le_refl _) (LG.out _)))
                    refine wpQuiet_nil ?_
                    rintro _ ⟨⟨wq, hbq⟩, rfl⟩
                    go_wp2
                    go_roundw
                    case rel => exact ⟨i5 + 1, by go_num, by omega, by rw [HFK2.out], hbx.trans (hbq.mono hbx.size)⟩
                    case measure => simp [intOf]; omega
                  · have hz1 : (x.f1.toList == []) = false := isEmpty_no _ hz
                    have HFK2 := Lib.hid (show (full (l.take (i5 + 1))).length = nf + 1 by rw [HFK.out, HNF.out, if_neg hz])
                    clear hz
                    go_wp2_with (go_at_call 12; (with_reducible refine (num_calls _ _).mono ?_); rintro en wx ⟨rfl, hwx⟩; subst wx)
                    refine wp_region_quiet_below wr.heap.size wr (by kernel_rfl) (by kernel_rfl) (Below.refl _ _) ?_
                    repeat go_big_quiet_step (first | (go_at_call 14; exact calls_below_of (Nat.le_refl _) (LG.out _)))
                    refine wpQuiet_nil ?_
                    rintro _ ⟨⟨wq, hbq⟩, rfl⟩
                    go_wp2
                    go_roundw
                    case rel => exact ⟨i5 + 1, by go_num, by omega, by rw [HFK2.out]; go_num, hbx.trans (hbq.mono hbx.size)⟩
                    case measure => simp [intOf]; omega
                · have HNL := Lib.hid (show nf = a.length by rw [← HNF.out, show i5 = l.length by omega, List.take_length, HLEN.out])
                  clear HNF HGET HFA HFI
                  obtain rfl : nf = a.length := HNL.out
                  clear hfi HNL
                  go_wp2_with fail
                  go_loopw [14] (fun v14 wr => ∃ j : Nat, v14 = .int .i64 j ∧ 1 ≤ j ∧ j ≤ 61 ∧ Below w4.heap.size w4 wr) (fun v _ => 61 - (intOf v).toNat)
                  case atStart => exact ⟨1, rfl, by omega, by omega, hbx⟩
                  case round =>
                    clear hbx
                    obtain ⟨j, rfl, hj1, hj61, hbx⟩ := hrel
                    by_cases hja : j < a.length
                    · obtain ⟨ad, eA, h0, h1⟩ := at_N HA4.out j hja
                      subst eA
                      obtain ⟨ad', eA, h0p, h1p⟩ := at_N HA4.out (j - 1) (by omega)
                      cases eA
                      have h0' := pw_cell_below hbx h0
                      have h0q := pw_cell_below hbx h0p
                      have hbl : Op.bytesLess a[j - 1].f0.toList a[j].f0.toList = true := by
                        rw [bl_data]
                        have := HASC.out (j - 1) (by omega)
                        have e : j - 1 + 1 = j := by omega
                        simpa [e] using this
                      generalize a[j].f0 = s1 at *
                      generalize a[j - 1].f0 = s0 at *
                      have L0 : ∀ p : BelowAt wr.heap.size wr, p.u.cell? (ad.add (j * 2)) = some (.string s1) := fun p => pw_cell_below p.h h0'
                      have LP : ∀ p : BelowAt wr.heap.size wr, p.u.cell? (ad.add ((j - 1) * 2)) = some (.string s0) := fun p => pw_cell_below p.h h0q
                      have hwr : IntKind.i64.wrap ((j : Int) - 1) = ((j - 1 : Nat) : Int) := by rw [IntKind.wrap_i64]; omega
                      have hk1 : (0 : Int) ≤ ((j - 1 : Nat) : Int) := by omega
                      have hk2 : ((j - 1 : Nat) : Int) < (a.length : Int) := by omega
                      clear h0 h1 h0p h1p h0' h0q
                      go_wp2_with fail
                      refine wp_region_quiet_below wr.heap.size wr (by kernel_rfl) (by kernel_rfl) (Below.refl _ _) ?_
                      repeat go_big_quiet_step (fail)
                      refine wpQuiet_nil ?_
                      rintro _ ⟨⟨wq, hbq⟩, rfl⟩
                      clear hwr
                      go_wp2
                      go_roundw
                      case rel => exact ⟨j + 1, by go_num, by omega, by omega, hbx.trans (hbq.mono hbx.size)⟩
                      case measure => simp [intOf]; omega
                    · have W5 := works_calls wr (HE4.out.below hbx)
                      go_wp2_with fail
                      refine W5.mono ?_
                      rintro en w5 ⟨rfl, hb5⟩
                      have hbz := hbx.trans (hb5.mono hbx.size)
                      go_wp2
                      go_ret
                      exact ⟨rfl, HB4.out.trans (hbz.mono HB4.out.size)⟩
            · have hze : ((e : Int) == 0) = false := by simpa using h0
              have hzf : ((f : Int) == 0) = false := by simpa using fun h => h0 (HEF.out.1 h)
              clear HEF
              have hal0 : a.length ≤ 0 := by rw [HSE.out.2 h0]; exact Nat.le_refl _
              have hal1 : ((a.length : Int) == 0) = true := by rw [show a.length = 0 by omega]; rfl
              clear HSE
              go_wp2_with (first | (go_at_call 12; (with_reducible refine (num_calls _ _).mono ?_); rintro en wx ⟨rfl, hwx⟩; subst wx))
              refine EQ.out.mono ?_
              rintro en w4 ⟨rfl, hb4⟩
              have HB4 := Lib.hid (HBW3.out.trans (hb4.mono HBW3.out.size))
              have HE4 := Lib.hid (HE3.out.below hb4)
              clear hb4 HBW3 HE3 HCL H8 H10 EQ
              go_wp2_with fail
              go_loopw [12, 13] (fun v12 v13 wr => v13 = .int .i64 0 ∧ v12 = .int .i64 0 ∧ Below w4.heap.size w4 wr) (fun _ _ _ => 0)
              case atStart => exact ⟨rfl, rfl, Below.refl _ _⟩
              case round =>
                obtain ⟨rfl, rfl, hbx⟩ := hrel
                by_cases hlt5 : 0 < l.length
                · have hlt6 : decide ((0 : Int) < (l.length : Int)) = true := decide_eq_true (by omega)
                  have W5 := works_calls wr (HE4.out.below hbx)
                  go_wp2_with (first | (go_at_call 12; (with_reducible refine (num_calls _ _).mono ?_); rintro en wx ⟨rfl, hwx⟩; subst wx))
                  go_loopw [14] (fun v14 wr => v14 = .int .i64 1 ∧ Below w4.heap.size w4 wr) (fun _ _ => 0)
                  case atStart => exact ⟨rfl, hbx⟩
                  case round =>
                    clear hbx W5
                    obtain ⟨rfl, hbx⟩ := hrel
                    have W5 := works_calls wr (HE4.out.below hbx)
                    go_wp2_with fail
                    refine W5.mono ?_
                    rintro en w5 ⟨rfl, hb5⟩
                    have hbz := hbx.trans (hb5.mono hbx.size)
                    go_wp2
                    go_ret
                    exact ⟨rfl, HB4.out.trans (hbz.mono HB4.out.size)⟩
                · have hlt6 : decide ((0 : Int) < (l.length : Int)) = false := decide_eq_false (by omega)
                  have W5 := works_calls wr (HE4.out.below hbx)
                  go_wp2_with (first | (go_at_call 12; (with_reducible refine (num_calls _ _).mono ?_); rintro en wx ⟨rfl, hwx⟩; subst wx))
                  go_loopw [14] (fun v14 wr => v14 = .int .i64 1 ∧ Below w4.heap.size w4 wr) (fun _ _ => 0)
                  case atStart => exact ⟨rfl, hbx⟩
                  case round =>
                    clear hbx W5
                    obtain ⟨rfl, hbx⟩ := hrel
                    have W5 := works_calls wr (HE4.out.below hbx)
                    go_wp2_with fail
                    refine W5.mono ?_
                    rintro en w5 ⟨rfl, hb5⟩
                    have hbz := hbx.trans (hb5.mono hbx.size)
                    go_wp2
                    go_ret
                    exact ⟨rfl, HB4.out.trans (hbz.mono HB4.out.size)⟩
          · have hlm := hms.out.2
            obtain ⟨g4, eA, hg4, hg4w, hfr, hcs⟩ := R27_some hR.out (by omega)
            subst eA
            have hci := hcs i (by omega)
            have hcj := hcs (n - 1 - i) (by omega)
            go_wp2_with fail
            have hp := @List.set_set_perm _ ms i (n - 1 - i) (by omega) (by omega)
            have r1 := R27_put hR.out i (by omega) ms[n - 1 - i]
            have r2 := R27_put r1 (n - 1 - i) (by rw [List.length_set]; omega) ms[i]
            have b1 := ((((hbw.setCell (p := ⟨g4, i * 2, none⟩) hg4 (.string ms[n - 1 - i].f0)).setCell (p := ⟨g4, i * 2 + 1, none⟩) hg4 (.string ms[n - 1 - i].f1)).setCell (p := ⟨g4, (n - 1 - i) * 2, none⟩) hg4 (.string ms[i].f0)).setCell (p := ⟨g4, (n - 1 - i) * 2 + 1, none⟩) hg4 (.string ms[i].f1))
            refine ⟨⟨i + 1, (ms.set i ms[n - 1 - i]).set (n - 1 - i) ms[i], by go_num, by omega, Lib.hid ⟨hp.trans hms.out.1, by rw [List.length_set, List.length_set]; exact hlm⟩, Lib.hid (Kd.R_alloc r2 _), b1.alloc b1.size _⟩, ?_⟩
            simp [intOf]
            omega
        · have HS1 := Lib.hid (set_calls A1 c1 l wr (Kd.C_below HC1.out hbw) HL1.out (by omega))
          have HPL := Lib.hid (set_perm hms.out.1)
          clear HX1 hxr
          go_wp2_with fail
          refine HS1.out.mono ?_
          clear HS1
          rintro e w2 ⟨v8, rfl, hR8, hb2⟩
          have hbw2 := hbw.trans (hb2.mono hbw.size)
          have hR2 := Kd.R_below hR.out hb2
          have S2 := set_calls A4 c4 ms w2 (by have h := (Kd.R_reads' hR2); rw [hms.out.2] at h ⊢; exact h.2.2) (by have h := (Kd.R_reads' hR2); rw [hms.out.2] at h ⊢; exact h.2.1) (by have := hms.out.2; omega)
          rw [hms.out.2, HPL.out.1] at S2
          have HS2 := Lib.hid S2
          clear S2 hR2 hR hb2
          go_wp2_with fail
          refine HS2.out.mono ?_
          clear HS2
          rintro e w3 ⟨v10, rfl, hR10, hb3⟩
          have hbw3 := hbw2.trans (hb3.mono hbw2.size)
          have hR83 := Kd.R_below hR8 hb3
          clear hbw hbw2 hb3 hR8
          obtain ⟨A8, c8, rfl⟩ := Kd.R_slice hR83
          obtain ⟨A10, c10, rfl⟩ := Kd.R_slice hR10
          have H8 := Lib.hid hR83
          have H10 := Lib.hid hR10
          have HE3 := Lib.hid (HE1.out.below hbw3)
          have HBW3 := Lib.hid (HB1.out.trans (hbw3.mono HB1.out.size))
          have HCL := Lib.hid (Kd.C_below HC1.out hbw3)
          have HSE := Lib.hid (show ((setL l).2 = 0 → fitL l ∧ (setL l).1 = srtL (full l)) ∧ (¬ (setL l).2 = 0 → (setL l).1 = [] ) from ⟨fun h => ⟨(set_ok h).1, (set_ok h).2.2⟩, fun h => set_bad h⟩)
          have hal : (setL l).1.length ≤ 16 := set_len l
          have hms2 := hms.out.2
          have HEF := Lib.hid HPL.out.2
          clear hR83 hR10 HPL hbw3 hms HRL2 HN2 HPM
          generalize (setL ms).2 = f at *
          generalize (setL l).2 = e at *
          generalize hsl : (setL l).1 = a at *
          clear hsl
          have EQ0 := eqLabels_calls A8 c8 a A10 c10 a w3 (Kd.R_reads' H8.out).2.2 (Kd.R_reads' H8.out).2.1 (Kd.R_reads' H10.out).2.2 (Kd.R_reads' H10.out).2.1 (by omega)
          rw [eqLB_self] at EQ0
          have EQ := Lib.hid EQ0
          clear EQ0
          rcases Classical.em (e = 0) with h0 | h0
          · have hf0 : f = 0 := HEF.out.2 h0
            subst h0
            subst hf0
            clear HEF
            obtain ⟨hfit, hsa⟩ := HSE.out.1 rfl
            have HGET := Lib.hid (show ∀ i (h : i < l.length), getL a l[i].f0 = l[i].f1 from fun i h => by rw [hsa]; exact get_set hfit (List.getElem_mem h))
            have HASC := Lib.hid (show ∀ j (h : j + 1 < a.length), Lib.compareBytes a[j].f0.data.toList a[j + 1].f0.data.toList < 0 from (ascL_at a).1 (by rw [hsa]; exact set_asc hfit))
            have HLEN := Lib.hid (show a.length = (full l).length by rw [hsa, srtL_len])
            have HFA := Lib.hid (show ∀ i (h : i < l.length), (full (l.take (i + 1))).length = (full (l.take i)).length + (if l[i].f1.size = 0 then 0 else 1) from fun i h => by rw [full_at l i h]; split <;> simp)
            have HFL := Lib.hid (show (full l).length ≤ 60 from Nat.le_trans (full_le l) HN)
            have HFI := Lib.hid (show ∀ i, (full (l.take i)).length ≤ 60 from fun i => by have := full_le (l.take i); rw [List.length_take] at this; omega)
            clear hfit hsa HSE
            go_wp2_with (first | (go_at_call 12; (with_reducible refine (num_calls _ _).mono ?_); rintro en wx ⟨rfl, hwx⟩; subst wx))
            refine EQ.out.mono ?_
            rintro en w4 ⟨rfl, hb4⟩
            have HB4 := Lib.hid (HBW3.out.trans (hb4.mono HBW3.out.size))
            have HE4 := Lib.hid (HE3.out.below hb4)
            have HC4 := Lib.hid (Kd.C_below HCL.out hb4)
            have HA4 := Lib.hid (Kd.C_below (Kd.R_reads' H8.out).2.2 hb4)
            have HCA := Lib.hid (Kd.R_reads' H8.out).2.1
            clear hb4 HBW3 HE3 HCL H8 H10 EQ
            go_wp2_with fail
            go_loopw [12, 13] (fun v12 v13 wr => ∃ i : Nat, v13 = .int .i64 i ∧ i ≤ l.length ∧ v12 = .int .i64 ((full (l.take i)).length : Nat) ∧ Below w4.heap.size w4 wr) (fun _ v _ => l.length - (intOf v).toNat)
            case atStart => exact ⟨0, rfl, by omega, rfl, Below.refl _ _⟩
            case round =>
              obtain ⟨i5, rfl, hi5, rfl, hbx⟩ := hrel
              have hfi := HFI.out i5
              generalize hnf : (full (l.take i5)).length = nf at *
              have HNF := Lib.hid hnf
              clear hnf
              by_cases hlt5 : i5 < l.length
              · obtain ⟨ad, eA, h0, h1⟩ := at_N HC4.out i5 hlt5
                subst eA
                have h0' := pw_cell_below hbx h0
                have h1' := pw_cell_below hbx h1
                clear h0 h1
                have G := fun (W : World) (hb : Below w4.heap.size w4 W) => label_Get.calls A8 c8 a l[i5].f0 l[i5].f1 W (Kd.C_below HA4.out hb) HCA.out (by rw [label_Get.f, if_pos (by omega), HGET.out i5 hlt5])
                have HFK := Lib.hid (HFA.out i5 hlt5)
                generalize l[i5] = x at *
                have L0 : ∀ p : BelowAt wr.heap.size wr, p.u.cell? (ad.add (i5 * 2)) = some (.string x.f0) := fun p => pw_cell_below p.h h0'
                have L1 : ∀ p : BelowAt wr.heap.size wr, p.u.cell? ⟨(ad.add (i5 * 2)).block, (ad.add (i5 * 2)).off + 1, none⟩ = some (.string x.f1) := fun p => pw_cell_below p.h h1'
                have LG := Lib.hid (fun (p : BelowAt wr.heap.size wr) => G p.u (hbx.trans (p.h.mono hbx.size)))
                clear G
                by_cases hz : x.f1.size = 0
                · have hz1 : (x.f1.toList == []) = true := isEmpty_yes _ hz
                  have HFK2 := Lib.hid (show (full (l.take (i5 + 1))).length = nf by rw [HFK.out, HNF.out, if_pos hz, Nat.add_zero])
                  clear hz
                  go_wp2_with (go_at_call 12; (with_reducible refine (num_calls _ _).mono ?_); rintro en wx ⟨rfl, hwx⟩; subst wx)
                  refine wp_region_quiet_below wr.heap.size wr (by kernel_rfl) (by kernel_rfl) (Below.refl _ _) ?_
                  repeat go_big_quiet_step (first | (go_at_call 14; exact calls_below_of (Nat.le_refl _) (LG.out _)))
                  refine wpQuiet_nil ?_
                  rintro _ ⟨⟨wq, hbq⟩, rfl⟩
                  go_wp2
                  go_roundw
                  case rel => exact ⟨i5 + 1, by go_num, by omega, by rw [HFK2.out], hbx.trans (hbq.mono hbx.size)⟩
                  case measure => simp [intOf]; omega
                · have hz1 : (x.f1.toList == []) = false := isEmpty_no _ hz
                  have HFK2 := Lib.hid (show (full (l.take (i5 + 1))).length = nf + 1 by rw [HFK.out, HNF.out, if_neg hz])
                  clear hz
                  go_wp2_with (go_at_call 12; (with_reducible refine (num_calls _ _).mono ?_); rintro en wx ⟨rfl, hwx⟩; subst wx)
                  refine wp_region_quiet_below wr.heap.size wr (by kernel_rfl) (by kernel_rfl) (Below.refl _ _) ?_
                  repeat go_big_quiet_step (first | (go_at_call 14; exact calls_below_of (Nat.le_refl _) (LG.out _)))
                  refine wpQuiet_nil ?_
                  rintro _ ⟨⟨wq, hbq⟩, rfl⟩
                  go_wp2
                  go_roundw
                  case rel => exact ⟨i5 + 1, by go_num, by omega, by rw [HFK2.out]; go_num, hbx.trans (hbq.mono hbx.size)⟩
                  case measure => simp [intOf]; omega
              · have HNL := Lib.hid (show nf = a.length by rw [← HNF.out, show i5 = l.length by omega, List.take_length, HLEN.out])
                clear HNF HGET HFA HFI
                obtain rfl : nf = a.length := HNL.out
                clear hfi HNL
                go_wp2_with fail
                go_loopw [14] (fun v14 wr => ∃ j : Nat, v14 = .int .i64 j ∧ 1 ≤ j ∧ j ≤ 61 ∧ Below w4.heap.size w4 wr) (fun v _ => 61 - (intOf v).toNat)
                case atStart => exact ⟨1, rfl, by omega, by omega, hbx⟩
                case round =>
                  clear hbx
                  obtain ⟨j, rfl, hj1, hj61, hbx⟩ := hrel
                  by_cases hja : j < a.length
                  · obtain ⟨ad, eA, h0, h1⟩ := at_N HA4.out j hja
                    subst eA
                    obtain ⟨ad', eA, h0p, h1p⟩ := at_N HA4.out (j - 1) (by omega)
                    cases eA
                    have h0' := pw_cell_below hbx h0
                    have h0q := pw_cell_below hbx h0p
                    have hbl : Op.bytesLess a[j - 1].f0.toList a[j].f0.toList = true := by
                      rw [bl_data]
                      have := HASC.out (j - 1) (by omega)
                      have e : j - 1 + 1 = j := by omega
                      simpa [e] using this
                    generalize a[j].f0 = s1 at *
                    generalize a[j - 1].f0 = s0 at *
                    have L0 : ∀ p : BelowAt wr.heap.size wr, p.u.cell? (ad.add (j * 2)) = some (.string s1) := fun p => pw_cell_below p.h h0'
                    have LP : ∀ p : BelowAt wr.heap.size wr, p.u.cell? (ad.add ((j - 1) * 2)) = some (.string s0) := fun p => pw_cell_below p.h h0q
                    have hwr : IntKind.i64.wrap ((j : Int) - 1) = ((j - 1 : Nat) : Int) := by rw [IntKind.wrap_i64]; omega
                    have hk1 : (0 : Int) ≤ ((j - 1 : Nat) : Int) := by omega
                    have hk2 : ((j - 1 : Nat) : Int) < (a.length : Int) := by omega
                    clear h0 h1 h0p h1p h0' h0q
                    go_wp2_with fail
                    refine wp_region_quiet_below wr.heap.size wr (by kernel_rfl) (by kernel_rfl) (Below.refl _ _) ?_
                    repeat go_big_quiet_step (fail)
                    refine wpQuiet_nil ?_
                    rintro _ ⟨⟨wq, hbq⟩, rfl⟩
                    clear hwr
                    go_wp2
                    go_roundw
                    case rel => exact ⟨j + 1, by go_num, by omega, by omega, hbx.trans (hbq.mono hbx.size)⟩
                    case measure => simp [intOf]; omega
                  · have W5 := works_calls wr (HE4.out.below hbx)
                    go_wp2_with fail
                    refine W5.mono ?_
                    rintro en w5 ⟨rfl, hb5⟩
                    have hbz := hbx.trans (hb5.mono hbx.size)
                    go_wp2
                    go_ret
                    exact ⟨rfl, HB4.out.trans (hbz.mono HB4.out.size)⟩
          · have hze : ((e : Int) == 0) = false := by simpa using h0
            have hzf : ((f : Int) == 0) = false := by simpa using fun h => h0 (HEF.out.1 h)
            clear HEF
            have hal0 : a.length ≤ 0 := by rw [HSE.out.2 h0]; exact Nat.le_refl _
            have hal1 : ((a.length : Int) == 0) = true := by rw [show a.length = 0 by omega]; rfl
            clear HSE
            go_wp2_with (first | (go_at_call 12; (with_reducible refine (num_calls _ _).mono ?_); rintro en wx ⟨rfl, hwx⟩; subst wx))
            refine EQ.out.mono ?_
            rintro en w4 ⟨rfl, hb4⟩
            have HB4 := Lib.hid (HBW3.out.trans (hb4.mono HBW3.out.size))
            have HE4 := Lib.hid (HE3.out.below hb4)
            clear hb4 HBW3 HE3 HCL H8 H10 EQ
            go_wp2_with fail
            go_loopw [12, 13] (fun v12 v13 wr => v13 = .int .i64 0 ∧ v12 = .int .i64 0 ∧ Below w4.heap.size w4 wr) (fun _ _ _ => 0)
            case atStart => exact ⟨rfl, rfl, Below.refl _ _⟩
            case round =>
              obtain ⟨rfl, rfl, hbx⟩ := hrel
              by_cases hlt5 : 0 < l.length
              · have hlt6 : decide ((0 : Int) < (l.length : Int)) = true := decide_eq_true (by omega)
                have W5 := works_calls wr (HE4.out.below hbx)
                go_wp2_with (first | (go_at_call 12; (with_reducible refine (num_calls _ _).mono ?_); rintro en wx ⟨rfl, hwx⟩; subst wx))
                go_loopw [14] (fun v14 wr => v14 = .int .i64 1 ∧ Below w4.heap.size w4 wr) (fun _ _ => 0)
                case atStart => exact ⟨rfl, hbx⟩
                case round =>
                  clear hbx W5
                  obtain ⟨rfl, hbx⟩ := hrel
                  have W5 := works_calls wr (HE4.out.below hbx)
                  go_wp2_with fail
                  refine W5.mono ?_
                  rintro en w5 ⟨rfl, hb5⟩
                  have hbz := hbx.trans (hb5.mono hbx.size)
                  go_wp2
                  go_ret
                  exact ⟨rfl, HB4.out.trans (hbz.mono HB4.out.size)⟩
              · have hlt6 : decide ((0 : Int) < (l.length : Int)) = false := decide_eq_false (by omega)
                have W5 := works_calls wr (HE4.out.below hbx)
                go_wp2_with (first | (go_at_call 12; (with_reducible refine (num_calls _ _).mono ?_); rintro en wx ⟨rfl, hwx⟩; subst wx))
                go_loopw [14] (fun v14 wr => v14 = .int .i64 1 ∧ Below w4.heap.size w4 wr) (fun _ _ => 0)
                case atStart => exact ⟨rfl, hbx⟩
                case round =>
                  clear hbx W5
                  obtain ⟨rfl, hbx⟩ := hrel
                  have W5 := works_calls wr (HE4.out.below hbx)
                  go_wp2_with fail
                  refine W5.mono ?_
                  rintro en w5 ⟨rfl, hb5⟩
                  have hbz := hbx.trans (hb5.mono hbx.size)
                  go_wp2
                  go_ret
                  exact ⟨rfl, HB4.out.trans (hbz.mono HB4.out.size)⟩
end Go.Proofs.YtkanfffbdegfoaaDoor.PD
