/- label.MatchText: a matcher's one text, or that it may not be. Its conditions: a name of at most 100000 bytes, a value and words of at most 100000 bytes, at most 100000 words, the laid tables. The document's MatchText tells what the program's does. Its conditions: a name of at most 100000 bytes, a value and words of at most 100000 bytes, at most 100000 words. fathomlaw1.LendTexts and BackTexts: texts in a list of their own with marks behind them; that they are as they were. At most 100000 texts. fathomlaw13.LabelMatches: it returns true; what was there is as it was. No condition but the environment's (the tables). -/
import Derived.Test.YtkanfffbdegfoaaGreatDoorKR
import Derived.Test.YtkanfffbdegfoaaGreatDoorKU
import Derived.Test.YtkanfffbdegfoaaGreatDoorPGh
namespace Go.Proofs.YtkanfffbdegfoaaGreatDoor.PD
set_option linter.unusedVariables false
set_option linter.unusedSimpArgs false
section
open Go.RowKit Go.Proofs.YtkanfffbdegfoaaGreatDoorW.PrintWords Go.Proofs.YtkanfffbdegfoaaGreatDoorW.PrintLast Go.Proofs.YtkanfffbdegfoaaGreatDoorW.PrintMore

def quoteS (s : ByteArray) : ByteArray := ⟨(quoteL s).toArray⟩
theorem quoteS_size (s : ByteArray) : (quoteS s).size = (quoteL s).length := by simp [quoteS, ByteArray.size]
def wordsS (l : List ByteArray) : ByteArray := ⟨(Lib.join ((l.map quoteS).map (·.data.toList)) [44]).toArray⟩
/-- label.MatchText. -/
def mtextV (m : S84) : ByteArray × Int :=
  if checkV m ≠ 0 then (⟨#[]⟩, 135)
  else if m.f0 = 1 then (m.f1 ++ (⟨#[61]⟩ : ByteArray) ++ quoteS m.f2, 0)
  else if m.f0 = 2 then (m.f1 ++ (⟨#[33, 61]⟩ : ByteArray) ++ quoteS m.f2, 0)
  else if m.f0 = 3 then (m.f1 ++ (⟨#[94, 61]⟩ : ByteArray) ++ quoteS m.f2, 0)
  else (m.f1 ++ (⟨#[32, 105, 110, 32, 40]⟩ : ByteArray) ++ wordsS m.f3 ++ (⟨#[41]⟩ : ByteArray), 0)
theorem check_all {m : S84} (h : checkV m = 0) : badM m = false ∧ 1 ≤ m.f0 ∧ m.f0 ≤ 4 := by
  unfold checkV at h
  split at h
  · rename_i h1; exact h1
  · exact absurd h (by decide)
theorem ask_at {m : S84} (A : Option Addr) (c : Nat) (h : checkV m = 0) : askV m A c = if m.f0 = 1 then .iface 147 (.string m.f2) else if m.f0 = 2 then .iface 148 (.string m.f2) else if m.f0 = 3 then .iface 149 (.string m.f2) else .iface 150 (.slice A m.f3.length c) := by
  obtain ⟨h1, h2, h3⟩ := check_all h
  rw [askV, h1, if_neg (by decide)]
  by_cases a1 : m.f0 = 1
  · rw [if_pos a1, if_pos a1]
  · rw [if_neg a1, if_neg a1]
    by_cases a2 : m.f0 = 2
    · rw [if_pos a2, if_pos a2]
    · rw [if_neg a2, if_neg a2]
      by_cases a3 : m.f0 = 3
      · rw [if_pos a3, if_pos a3]
      · rw [if_neg a3, if_neg a3, if_pos (by omega)]
theorem ask_nil {m : S84} (A : Option Addr) (c : Nat) (h : checkV m ≠ 0) : askV m A c = .nilIface := by
  rcases askV_kinds m A c with ⟨h1, _⟩ | ⟨_, _, _, h2, _⟩
  · exact h1
  · exact absurd h2 h
theorem taN_147 (W : World) : (Instr.typeAssert .nilIface 145 147 true).run Tryz.prog W = .ok (.tuple #[.string ⟨#[]⟩, .bool false]) W := by kernel_rfl
theorem ta147_147 (s : ByteArray) (W : World) : (Instr.typeAssert (.iface 147 (.string s)) 145 147 true).run Tryz.prog W = .ok (.tuple #[.string s, .bool true]) W := by kernel_rfl
theorem ta147_148 (s : ByteArray) (W : World) : (Instr.typeAssert (.iface 147 (.string s)) 145 148 true).run Tryz.prog W = .ok (.tuple #[.string ⟨#[]⟩, .bool false]) W := by kernel_rfl
theorem ta147_149 (s : ByteArray) (W : World) : (Instr.typeAssert (.iface 147 (.string s)) 145 149 true).run Tryz.prog W = .ok (.tuple #[.string ⟨#[]⟩, .bool false]) W := by kernel_rfl
theorem ta147_150 (s : ByteArray) (W : World) : (Instr.typeAssert (.iface 147 (.string s)) 145 150 true).run Tryz.prog W = .ok (.tuple #[.slice none 0 0, .bool false]) W := by kernel_rfl
theorem taN_148 (W : World) : (Instr.typeAssert .nilIface 145 148 true).run Tryz.prog W = .ok (.tuple #[.string ⟨#[]⟩, .bool false]) W := by kernel_rfl
theorem ta148_147 (s : ByteArray) (W : World) : (Instr.typeAssert (.iface 148 (.string s)) 145 147 true).run Tryz.prog W = .ok (.tuple #[.string ⟨#[]⟩, .bool false]) W := by kernel_rfl
theorem ta148_148 (s : ByteArray) (W : World) : (Instr.typeAssert (.iface 148 (.string s)) 145 148 true).run Tryz.prog W = .ok (.tuple #[.string s, .bool true]) W := by kernel_rfl
theorem ta148_149 (s : ByteArray) (W : World) : (Instr.typeAssert (.iface 148 (.string s)) 145 149 true).run Tryz.prog W = .ok (.tuple #[.string ⟨#[]⟩, .bool false]) W := by kernel_rfl
theorem ta148_150 (s : ByteArray) (W : World) : (Instr.typeAssert (.iface 148 (.string s)) 145 150 true).run Tryz.prog W = .ok (.tuple #[.slice none 0 0, .bool false]) W := by kernel_rfl
theorem taN_149 (W : World) : (Instr.typeAssert .nilIface 145 149 true).run Tryz.prog W = .ok (.tuple #[.string ⟨#[]⟩, .bool false]) W := by kernel_rfl
theorem ta149_147 (s : ByteArray) (W : World) : (Instr.typeAssert (.iface 149 (.string s)) 145 147 true).run Tryz.prog W = .ok (.tuple #[.string ⟨#[]⟩, .bool false]) W := by kernel_rfl
theorem ta149_148 (s : ByteArray) (W : World) : (Instr.typeAssert (.iface 149 (.string s)) 145 148 true).run Tryz.prog W = .ok (.tuple #[.string ⟨#[]⟩, .bool false]) W := by kernel_rfl
theorem ta149_149 (s : ByteArray) (W : World) : (Instr.typeAssert (.iface 149 (.string s)) 145 149 true).run Tryz.prog W = .ok (.tuple #[.string s, .bool true]) W := by kernel_rfl
theorem ta149_150 (s : ByteArray) (W : World) : (Instr.typeAssert (.iface 149 (.string s)) 145 150 true).run Tryz.prog W = .ok (.tuple #[.slice none 0 0, .bool false]) W := by kernel_rfl
theorem taN_150 (W : World) : (Instr.typeAssert .nilIface 145 150 true).run Tryz.prog W = .ok (.tuple #[.slice none 0 0, .bool false]) W := by kernel_rfl
theorem ta150_147 (A : Option Addr) (n c : Nat) (W : World) : (Instr.typeAssert (.iface 150 (.slice A n c)) 145 147 true).run Tryz.prog W = .ok (.tuple #[.string ⟨#[]⟩, .bool false]) W := by kernel_rfl
theorem ta150_148 (A : Option Addr) (n c : Nat) (W : World) : (Instr.typeAssert (.iface 150 (.slice A n c)) 145 148 true).run Tryz.prog W = .ok (.tuple #[.string ⟨#[]⟩, .bool false]) W := by kernel_rfl
theorem ta150_149 (A : Option Addr) (n c : Nat) (W : World) : (Instr.typeAssert (.iface 150 (.slice A n c)) 145 149 true).run Tryz.prog W = .ok (.tuple #[.string ⟨#[]⟩, .bool false]) W := by kernel_rfl
theorem ta150_150 (A : Option Addr) (n c : Nat) (W : World) : (Instr.typeAssert (.iface 150 (.slice A n c)) 145 150 true).run Tryz.prog W = .ok (.tuple #[.slice A n c, .bool true]) W := by kernel_rfl
set_option maxHeartbeats 8000000 in
set_option maxRecDepth 100000 in
theorem mtext_calls (m : S84) (A : Option Addr) (c : Nat) (w : World) (hC : Kd.C Kd.string w A m.f3.length m.f3) (h1 : m.f1.size ≤ 100000) (h2 : m.f2.size ≤ 100000) (hl : m.f3.length ≤ 100000) (hw : ∀ x ∈ m.f3, x.size ≤ 100000) (hT : Lib.Utf8Tabs 0 1 w) :
    Calls Tryz.prog 32 #[.agg #[.int .i64 m.f0, .string m.f1, .string m.f2, .slice A m.f3.length c]] w fun e w' => e = .returned (.tuple #[.string (mtextV m).1, .int .i64 (mtextV m).2]) ∧ Below w.heap.size w w' := by
  have hx0 := heap_alloc_new w (.cells #[.int .i64 m.f0, .string m.f1, .string m.f2, .slice A m.f3.length c] 84)
  have hb0 := (Below.refl w.heap.size w).alloc (Nat.le_refl _) (.cells #[.int .i64 m.f0, .string m.f1, .string m.f2, .slice A m.f3.length c] 84)
  have HX0 := Lib.hid hx0
  have HB0 := Lib.hid hb0
  have HC := Lib.hid (Kd.C_below hC hb0)
  have HT := Lib.hid hT
  have HW := Lib.hid hw
  have hc0 := cell_at hx0 0
  have hc1 := cell_at hx0 1
  have hc2 := cell_at hx0 2
  have hc3 := cell_at hx0 3
  have K1 := asked_calls m A c (w.alloc (.cells #[.int .i64 m.f0, .string m.f1, .string m.f2, .slice A m.f3.length c] 84)) HC.out (by omega)
  clear hx0 hb0 hC hT hw
  generalize hres : mtextV m = res
  have HS := Lib.hid hres
  clear hres
  by_cases hk : checkV m = 0
  · rw [ask_at A c hk] at K1
    have hm0 : res = if m.f0 = 1 then (m.f1 ++ (⟨#[61]⟩ : ByteArray) ++ quoteS m.f2, 0) else if m.f0 = 2 then (m.f1 ++ (⟨#[33, 61]⟩ : ByteArray) ++ quoteS m.f2, 0) else if m.f0 = 3 then (m.f1 ++ (⟨#[94, 61]⟩ : ByteArray) ++ quoteS m.f2, 0) else (m.f1 ++ (⟨#[32, 105, 110, 32, 40]⟩ : ByteArray) ++ wordsS m.f3 ++ (⟨#[41]⟩ : ByteArray), 0) := by
      rw [← HS.out, mtextV, if_neg (not_not_intro hk)]
    have hkind := (check_all hk).2
    obtain ⟨f0, nm, vl, ws⟩ := m
    simp only at *
    have hqs := quoteS_size vl
    have hql := quoteL_le vl
    have Q1 := Lib.hid (show ∀ W : World, Below w.heap.size w W → Calls Tryz.prog 12 #[.string vl] W fun e w' => e = .returned (.string (quoteS vl)) ∧ Below W.heap.size W w' from fun W hW => quote_any vl W (by omega) (Or.inl (Utf8Tabs_below HT.out hW)))
    have hcase : f0 = 1 ∨ f0 = 2 ∨ f0 = 3 ∨ f0 = 4 := by omega
    clear hkind hk HS
    generalize quoteS vl = q at *
    have hA1 : ¬ (9223372036854775807 < nm.size + 1) := by omega
    have hA2 : ¬ (9223372036854775807 < nm.size + 1 + q.size) := by omega
    have hA3 : ¬ (9223372036854775807 < nm.size + 2) := by omega
    have hA4 : ¬ (9223372036854775807 < nm.size + 2 + q.size) := by omega
    go_enter Tryz.func32, Tryz.ntmps32
    rcases hcase with rfl | rfl | rfl | rfl
    · rw [if_pos rfl] at K1 hm0
      have t147 := ta147_147 vl
      have HE := Lib.hid hm0
      have K1 := Lib.hid K1
      go_wp2_with fail
      refine K1.out.mono ?_
      clear K1 hc0 hc1 hc2 hc3
      rintro e w1 ⟨rfl, hb1⟩
      have HX1 := Lib.hid ((hb1.block w.heap.size (Array.getElem?_eq_some_iff.1 HX0.out).1).trans HX0.out)
      have HB1 := Lib.hid (HB0.out.trans (hb1.mono HB0.out.size))
      go_upto_region 4 with (fail)
      have y1 := fun (p : BelowAt w1.heap.size w1) => pw_cell_below p.h (cell_at HX1.out 1)
      have LQ := Lib.hid (fun (p : BelowAt w1.heap.size w1) => Q1.out p.u (HB1.out.trans (p.h.mono HB1.out.size)))
      clear hm0 hb1
      refine wp_region_quiet_below w1.heap.size w1 (by kernel_rfl) (by kernel_rfl) (Below.refl _ _) ?_
      repeat go_big_quiet_step (first | (go_at_call 12; with_reducible exact calls_below_of (Nat.le_refl _) (LQ.out _)))
      refine wpQuiet_nil ?_
      rintro wq ⟨⟨wq', hbq⟩, hw⟩
      replace hw : wq = wq' := hw
      subst hw
      clear y1 LQ
      go_wp2_with fail
      go_ret2
      rw [HE.out]
      exact ⟨rfl, HB1.out.trans (hbq.mono HB1.out.size)⟩
    · rw [if_neg (by decide), if_pos rfl] at K1 hm0
      have t147 := ta148_147 vl
      have t148 := ta148_148 vl
      have HE := Lib.hid hm0
      have K1 := Lib.hid K1
      go_wp2_with fail
      refine K1.out.mono ?_
      clear K1 hc0 hc1 hc2 hc3
      rintro e w1 ⟨rfl, hb1⟩
      have HX1 := Lib.hid ((hb1.block w.heap.size (Array.getElem?_eq_some_iff.1 HX0.out).1).trans HX0.out)
      have HB1 := Lib.hid (HB0.out.trans (hb1.mono HB0.out.size))
      go_upto_region 7 with (fail)
      have y1 := fun (p : BelowAt w1.heap.size w1) => pw_cell_below p.h (cell_at HX1.out 1)
      have LQ := Lib.hid (fun (p : BelowAt w1.heap.size w1) => Q1.out p.u (HB1.out.trans (p.h.mono HB1.out.size)))
      clear hm0 hb1
      refine wp_region_quiet_below w1.heap.size w1 (by kernel_rfl) (by kernel_rfl) (Below.refl _ _) ?_
      repeat go_big_quiet_step (first | (go_at_call 12; with_reducible exact calls_below_of (Nat.le_refl _) (LQ.out _)))
      refine wpQuiet_nil ?_
      rintro wq ⟨⟨wq', hbq⟩, hw⟩
      replace hw : wq = wq' := hw
      subst hw
      clear y1 LQ
      go_wp2_with fail
      go_ret2
      rw [HE.out]
      exact ⟨rfl, HB1.out.trans (hbq.mono HB1.out.size)⟩
    · rw [if_neg (by decide), if_neg (by decide), if_pos rfl] at K1 hm0
      have t147 := ta149_147 vl
      have t148 := ta149_148 vl
      have t149 := ta149_149 vl
      have HE := Lib.hid hm0
      have K1 := Lib.hid K1
      go_wp2_with fail
      refine K1.out.mono ?_
      clear K1 hc0 hc1 hc2 hc3
      rintro e w1 ⟨rfl, hb1⟩
      have HX1 := Lib.hid ((hb1.block w.heap.size (Array.getElem?_eq_some_iff.1 HX0.out).1).trans HX0.out)
      have HB1 := Lib.hid (HB0.out.trans (hb1.mono HB0.out.size))
      go_upto_region 10 with (fail)
      have y1 := fun (p : BelowAt w1.heap.size w1) => pw_cell_below p.h (cell_at HX1.out 1)
      have LQ := Lib.hid (fun (p : BelowAt w1.heap.size w1) => Q1.out p.u (HB1.out.trans (p.h.mono HB1.out.size)))
      clear hm0 hb1
      refine wp_region_quiet_below w1.heap.size w1 (by kernel_rfl) (by kernel_rfl) (Below.refl _ _) ?_
      repeat go_big_quiet_step (first | (go_at_call 12; with_reducible exact calls_below_of (Nat.le_refl _) (LQ.out _)))
      refine wpQuiet_nil ?_
      rintro wq ⟨⟨wq', hbq⟩, hw⟩
      replace hw : wq = wq' := hw
      subst hw
      clear y1 LQ
      go_wp2_with fail
      go_ret2
      rw [HE.out]
      exact ⟨rfl, HB1.out.trans (hbq.mono HB1.out.size)⟩
    · rw [if_neg (by decide), if_neg (by decide), if_neg (by decide)] at K1 hm0
      have t147 := ta150_147 A ws.length c
      have t148 := ta150_148 A ws.length c
      have t149 := ta150_149 A ws.length c
      have t150 := ta150_150 A ws.length c
      have HE := Lib.hid hm0
      have K1 := Lib.hid K1
      clear hqs hql Q1 hA1 hA2 hA3 hA4
      go_wp2_with fail
      refine K1.out.mono ?_
      clear K1 hc0 hc1 hc2 hc3
      rintro e w1 ⟨rfl, hb1⟩
      have HX1 := Lib.hid ((hb1.block w.heap.size (Array.getElem?_eq_some_iff.1 HX0.out).1).trans HX0.out)
      have HB1 := Lib.hid (HB0.out.trans (hb1.mono HB0.out.size))
      have HC1 := Lib.hid (Kd.C_below HC.out hb1)
      clear hm0 hb1
      go_wp2_with fail
      go_loopw [8, 45] (fun v8 v wr => ∃ k : Nat, v = .int .i64 k ∧ k ≤ ws.length ∧ Hid (Kd.R Kd.string 9 wr w1.heap.size (fun _ => True) v8 ((ws.take k).map quoteS)) ∧ Below w1.heap.size w1 wr) (fun _ v _ => ws.length - (intOf v).toNat)
      case atStart => exact ⟨0, rfl, by omega, Lib.hid (Kd.R_nil _ _ _ _ _), Below.refl _ _⟩
      case round =>
        obtain ⟨k, rfl, hk, hR, hbr⟩ := hrel
        have hbw := HB1.out.trans (hbr.mono HB1.out.size)
        by_cases hlt : k < ws.length
        · obtain ⟨ad, eA, hy⟩ := at_S HC1.out k hlt
          subst eA
          have hyr := pw_cell_below hbr hy
          have hws := HW.out _ (List.getElem_mem hlt)
          have HTK := Lib.hid (show (ws.take (k + 1)).map quoteS = (ws.take k).map quoteS ++ [quoteS ws[k]] by rw [List.take_succ_eq_append_getElem hlt, List.map_append, List.map_singleton])
          have C1 := Lib.hid (show Calls Tryz.prog 12 #[.string ws[k]] wr fun e w' => e = .returned (.string (quoteS ws[k])) ∧ Below wr.heap.size wr w' from quote_any ws[k] wr (by omega) (Or.inl (Utf8Tabs_below HT.out hbw)))
          generalize ws[k] = wd at *
          generalize quoteS wd = qd at *
          go_wp2_with fail
          refine C1.out.mono ?_
          clear C1 hyr
          rintro e w2 ⟨rfl, hb2⟩
          have hR2 := Lib.hid (Kd.R_below hR.out hb2)
          have hbr2 := hbr.trans (hb2.mono hbr.size)
          clear hb2 hbr hbw hR
          go_wp2_with (at_builtin; refine Kd.R_append Kd.string (w0 := w1) w1.heap.size rfl (.tmp 49) (.tmp 52) 22 9 (.string ⟨#[]⟩) 16 rfl Tryz.underlying22 info9 rfl (by decide) (by omega) u8 ((ws.take k).map quoteS) qd [.string qd] (fun _ => True) (fun _ => False) rfl rfl ?aP (fun _ hk => hk.elim) (fun _ _ => trivial) hR2.out hbr2 hbr2.size ?aL ?_; (case aP => rfl); (case aL => rw [List.length_map, List.length_take]; omega); rintro v5 w5 ho hb5 hg5 hat5)
          go_roundw
          case rel => exact ⟨k + 1, by go_num, by omega, Lib.hid (by rw [HTK.out]; exact ho), hb5⟩
          case measure => simp [intOf]; omega
        · have htk : ws.take k = ws := List.take_of_length_le (by omega)
          rw [htk] at hR
          have hjl : (Lib.join ((ws.map quoteS).map (·.data.toList)) [44]).length ≤ 40000400000 := by
            have h3 := join_le [44] 400002 ((ws.map quoteS).map (·.data.toList)) (fun x hx => by
              obtain ⟨y, hy, rfl⟩ := List.mem_map.1 hx
              obtain ⟨z, hz, rfl⟩ := List.mem_map.1 hy
              show (quoteS z).data.toList.length ≤ 400002
              rw [data_length, quoteS_size]
              have h4 := quoteL_le z
              have h5 := HW.out z hz
              omega)
            rw [List.length_map, List.length_map, show ([44] : List UInt8).length = 1 from rfl] at h3
            have h6 : ws.length * (1 + 400002) ≤ 100000 * (1 + 400002) := Nat.mul_le_mul_right _ hl
            omega
          have hjs : (wordsS ws).size ≤ 40000400000 := by
            have : (wordsS ws).size = (Lib.join ((ws.map quoteS).map (·.data.toList)) [44]).length := by simp [wordsS, ByteArray.size]
            omega
          have J := Lib.hid (fun (p : BelowAt wr.heap.size wr) => show Calls Tryz.prog 76 #[u8, .string ⟨#[44]⟩] p.u fun e w' => e = .returned (.string (wordsS ws)) ∧ Below p.u.heap.size p.u w' from join_own u8 (ws.map quoteS) (⟨#[44]⟩ : ByteArray) p.u _ _ (Kd.R_below hR.out p.h) (by rw [List.length_map]; omega) (by show (Lib.join ((ws.map quoteS).map (·.data.toList)) [44]).length ≤ _; omega))
          generalize wordsS ws = j at *
          have hA1 : ¬ (9223372036854775807 < nm.size + 5) := by omega
          have hA2 : ¬ (9223372036854775807 < nm.size + 5 + j.size) := by omega
          have hA3 : ¬ (9223372036854775807 < nm.size + 5 + j.size + 1) := by omega
          have hXr := (hbr.block w.heap.size (Array.getElem?_eq_some_iff.1 HX1.out).1).trans HX1.out
          clear hjl hjs htk
          go_upto_region 19 with (fail)
          have y1 := fun (p : BelowAt wr.heap.size wr) => pw_cell_below p.h (cell_at hXr 1)
          refine wp_region_quiet_below wr.heap.size wr (by kernel_rfl) (by kernel_rfl) (Below.refl _ _) ?_
          repeat go_big_quiet_step (first | (go_at_call 76; with_reducible exact calls_below_of (Nat.le_refl _) (J.out _)))
          refine wpQuiet_nil ?_
          rintro wq ⟨⟨wq', hbq⟩, hw⟩
          replace hw : wq = wq' := hw
          subst hw
          clear y1
          go_wp2_with fail
          go_ret2
          rw [HE.out]
          exact ⟨rfl, hbw.trans (hbq.mono hbw.size)⟩
  · rw [ask_nil A c hk] at K1
    have HE := Lib.hid (show res = (⟨#[]⟩, 135) by rw [← HS.out, mtextV, if_pos hk])
    have K1 := Lib.hid K1
    have t147 := taN_147
    have t148 := taN_148
    have t149 := taN_149
    have t150 := taN_150
    clear hk
    go_enter Tryz.func32, Tryz.ntmps32
    go_wp2_with fail
    refine K1.out.mono ?_
    rintro e w1 ⟨rfl, hb1⟩
    go_wp2_with fail
    go_ret2
    rw [HE.out]
    exact ⟨rfl, HB0.out.trans (hb1.mono HB0.out.size)⟩
end
section
open Go.RowKit Go.Proofs.YtkanfffbdegfoaaGreatDoorW.PrintWords Go.Proofs.YtkanfffbdegfoaaGreatDoorW.PrintLast Go.Proofs.YtkanfffbdegfoaaGreatDoorW.PrintMore

theorem app_listR (a b : ByteArray) : (a ++ b).data.toList = a.data.toList ++ b.data.toList := by
  rw [ByteArray.data_append, Array.toList_append]
theorem ba_ext' {a b : ByteArray} (h : a.data.toList = b.data.toList) : a = b := by
  obtain ⟨⟨a⟩⟩ := a
  obtain ⟨⟨b⟩⟩ := b
  simp only at h
  rw [h]
theorem join_snoc (a : List UInt8) (l : List (List UInt8)) (b sep : List UInt8) : Lib.join (a :: l ++ [b]) sep = Lib.join (a :: l) sep ++ sep ++ b := by
  rw [List.cons_append, Lib.join_cons, Lib.join_cons]
  simp [Lib.joinTail]
theorem words_snoc (l : List ByteArray) (x : ByteArray) : wordsS (l ++ [x]) = if l.length = 0 then quoteS x else wordsS l ++ (⟨#[44]⟩ : ByteArray) ++ quoteS x := by
  cases l with
  | nil =>
    rw [if_pos (show ([] : List ByteArray).length = 0 from rfl)]
    refine ba_ext' ?_
    show Lib.join [(quoteS x).data.toList] [44] = _
    rw [Lib.join_one]
  | cons y l =>
    rw [if_neg (by simp)]
    refine ba_ext' ?_
    rw [app_listR, app_listR]
    show Lib.join ((((y :: l) ++ [x]).map quoteS).map (·.data.toList)) [44] = Lib.join (((y :: l).map quoteS).map (·.data.toList)) [44] ++ [44] ++ (quoteS x).data.toList
    rw [List.map_append, List.map_append, List.map_cons, List.map_cons]
    exact join_snoc _ _ _ _
theorem words_size (l : List ByteArray) (h : ∀ x ∈ l, x.size ≤ 100000) : (wordsS l).size ≤ l.length * 400003 := by
  have h3 := join_le [44] 400002 ((l.map quoteS).map (·.data.toList)) (fun x hx => by
    obtain ⟨y, hy, rfl⟩ := List.mem_map.1 hx
    obtain ⟨z, hz, rfl⟩ := List.mem_map.1 hy
    show (quoteS z).data.toList.length ≤ 400002
    rw [data_length, quoteS_size]
    have h4 := quoteL_le z
    have h5 := h z hz
    omega)
  rw [List.length_map, List.length_map, show ([44] : List UInt8).length = 1 from rfl] at h3
  have : (wordsS l).size = (Lib.join ((l.map quoteS).map (·.data.toList)) [44]).length := by simp [wordsS, ByteArray.size]
  omega
def preS (nm : ByteArray) : ByteArray := nm ++ (⟨#[32, 105, 110, 32, 40]⟩ : ByteArray)
theorem pre_zero (nm : ByteArray) : preS nm = preS nm ++ wordsS [] := ba_ext' (by rw [app_listR]; simp [wordsS, Lib.join_nil])
theorem pre_first (nm : ByteArray) (l : List ByteArray) (x : ByteArray) (h : l.length = 0) : preS nm ++ wordsS l ++ quoteS x = preS nm ++ wordsS (l ++ [x]) := by
  have hl : l = [] := List.eq_nil_of_length_eq_zero h
  subst hl
  rw [words_snoc, if_pos (show ([] : List ByteArray).length = 0 from rfl)]
  refine ba_ext' ?_
  rw [app_listR, app_listR, app_listR]
  simp [wordsS, Lib.join_nil]
theorem pre_more (nm : ByteArray) (l : List ByteArray) (x : ByteArray) (h : ¬ l.length = 0) : preS nm ++ wordsS l ++ (⟨#[44]⟩ : ByteArray) ++ quoteS x = preS nm ++ wordsS (l ++ [x]) := by
  rw [words_snoc, if_neg h]
  refine ba_ext' ?_
  simp only [app_listR, List.append_assoc]
theorem pre_size (nm : ByteArray) : (preS nm).size = nm.size + 5 := by rw [preS, ByteArray.size_append]; rfl
set_option maxHeartbeats 8000000 in
set_option maxRecDepth 100000 in
theorem refText_calls (m : S84) (A : Option Addr) (c : Nat) (w : World) (hC : Kd.C Kd.string w A m.f3.length m.f3) (h1 : m.f1.size ≤ 100000) (h2 : m.f2.size ≤ 100000) (hl : m.f3.length ≤ 100000) (hw : ∀ x ∈ m.f3, x.size ≤ 100000) :
    Calls Tryz.prog 33 #[.agg #[.int .i64 m.f0, .string m.f1, .string m.f2, .slice A m.f3.length c]] w fun e w' => e = .returned (.tuple #[.string (mtextV m).1, .int .i64 (mtextV m).2]) ∧ Below w.heap.size w w' := by
  have hx0 := heap_alloc_new w (.cells #[.int .i64 m.f0, .string m.f1, .string m.f2, .slice A m.f3.length c] 84)
  have hb0 := (Below.refl w.heap.size w).alloc (Nat.le_refl _) (.cells #[.int .i64 m.f0, .string m.f1, .string m.f2, .slice A m.f3.length c] 84)
  have HX0 := Lib.hid hx0
  have HB0 := Lib.hid hb0
  have HC := Lib.hid (Kd.C_below hC hb0)
  have HW := Lib.hid hw
  have hc0 := cell_at hx0 0
  have hc1 := cell_at hx0 1
  have hc2 := cell_at hx0 2
  have hc3 := cell_at hx0 3
  have K1 := refCheck_calls m A c (w.alloc (.cells #[.int .i64 m.f0, .string m.f1, .string m.f2, .slice A m.f3.length c] 84)) HC.out h1 hl
  clear hx0 hb0 hC hw
  generalize hres : mtextV m = res
  have HS := Lib.hid hres
  clear hres
  by_cases hk : checkV m = 0
  · rw [hk] at K1
    have hm0 : res = if m.f0 = 1 then (m.f1 ++ (⟨#[61]⟩ : ByteArray) ++ quoteS m.f2, 0) else if m.f0 = 2 then (m.f1 ++ (⟨#[33, 61]⟩ : ByteArray) ++ quoteS m.f2, 0) else if m.f0 = 3 then (m.f1 ++ (⟨#[94, 61]⟩ : ByteArray) ++ quoteS m.f2, 0) else (m.f1 ++ (⟨#[32, 105, 110, 32, 40]⟩ : ByteArray) ++ wordsS m.f3 ++ (⟨#[41]⟩ : ByteArray), 0) := by
      rw [← HS.out, mtextV, if_neg (not_not_intro hk)]
    have hkind := (check_all hk).2
    obtain ⟨f0, nm, vl, ws⟩ := m
    simp only at *
    have hqs := quoteS_size vl
    have hql := quoteL_le vl
    have Q1 := Lib.hid (show ∀ W : World, Calls Tryz.prog 13 #[.string vl] W fun e w' => e = .returned (.string (quoteS vl)) ∧ Below W.heap.size W w' from fun W => rquote_calls vl h2 W)
    have hcase : f0 = 1 ∨ f0 = 2 ∨ f0 = 3 ∨ f0 = 4 := by omega
    have K1 := Lib.hid K1
    clear hkind hk HS
    generalize quoteS vl = q at *
    have hA1 : ¬ (9223372036854775807 < nm.size + 1) := by omega
    have hA2 : ¬ (9223372036854775807 < nm.size + 1 + q.size) := by omega
    have hA3 : ¬ (9223372036854775807 < nm.size + 2) := by omega
    have hA4 : ¬ (9223372036854775807 < nm.size + 2 + q.size) := by omega
    have hA5 : ¬ (9223372036854775807 < nm.size + 5) := by omega
    go_enter Tryz.func33, Tryz.ntmps33
    go_wp2_with fail
    refine K1.out.mono ?_
    clear K1 hc0 hc1 hc2 hc3
    rintro e w1 ⟨rfl, hb1⟩
    have HX1 := Lib.hid ((hb1.block w.heap.size (Array.getElem?_eq_some_iff.1 HX0.out).1).trans HX0.out)
    have HB1 := Lib.hid (HB0.out.trans (hb1.mono HB0.out.size))
    have HC1 := Lib.hid (Kd.C_below HC.out hb1)
    have hc0 := cell_at HX1.out 0
    have hc1 := cell_at HX1.out 1
    clear hb1
    rcases hcase with rfl | rfl | rfl | rfl
    · rw [if_pos rfl] at hm0
      have HE := Lib.hid hm0
      go_upto_region 5 with (fail)
      have y1 := fun (p : BelowAt w1.heap.size w1) => pw_cell_below p.h (cell_at HX1.out 1)
      have y2 := fun (p : BelowAt w1.heap.size w1) => pw_cell_below p.h (cell_at HX1.out 2)
      have LQ := Lib.hid (fun (p : BelowAt w1.heap.size w1) => Q1.out p.u)
      clear hm0 hc0 hc1
      refine wp_region_quiet_below w1.heap.size w1 (by kernel_rfl) (by kernel_rfl) (Below.refl _ _) ?_
      repeat go_big_quiet_step (first | (go_at_call 13; with_reducible exact calls_below_of (Nat.le_refl _) (LQ.out _)))
      refine wpQuiet_nil ?_
      rintro wq ⟨⟨wq', hbq⟩, hw⟩
      replace hw : wq = wq' := hw
      subst hw
      clear y1 y2 LQ
      go_wp2_with fail
      go_ret2
      rw [HE.out]
      exact ⟨rfl, HB1.out.trans (hbq.mono HB1.out.size)⟩
    · rw [if_neg (by decide), if_pos rfl] at hm0
      have HE := Lib.hid hm0
      go_upto_region 7 with (fail)
      have y1 := fun (p : BelowAt w1.heap.size w1) => pw_cell_below p.h (cell_at HX1.out 1)
      have y2 := fun (p : BelowAt w1.heap.size w1) => pw_cell_below p.h (cell_at HX1.out 2)
      have LQ := Lib.hid (fun (p : BelowAt w1.heap.size w1) => Q1.out p.u)
      clear hm0 hc0 hc1
      refine wp_region_quiet_below w1.heap.size w1 (by kernel_rfl) (by kernel_rfl) (Below.refl _ _) ?_
      repeat go_big_quiet_step (first | (go_at_call 13; with_reducible exact calls_below_of (Nat.le_refl _) (LQ.out _)))
      refine wpQuiet_nil ?_
      rintro wq ⟨⟨wq', hbq⟩, hw⟩
      replace hw : wq = wq' := hw
      subst hw
      clear y1 y2 LQ
      go_wp2_with fail
      go_ret2
      rw [HE.out]
      exact ⟨rfl, HB1.out.trans (hbq.mono HB1.out.size)⟩
    · rw [if_neg (by decide), if_neg (by decide), if_pos rfl] at hm0
      have HE := Lib.hid hm0
      go_upto_region 9 with (fail)
      have y1 := fun (p : BelowAt w1.heap.size w1) => pw_cell_below p.h (cell_at HX1.out 1)
      have y2 := fun (p : BelowAt w1.heap.size w1) => pw_cell_below p.h (cell_at HX1.out 2)
      have LQ := Lib.hid (fun (p : BelowAt w1.heap.size w1) => Q1.out p.u)
      clear hm0 hc0 hc1
      refine wp_region_quiet_below w1.heap.size w1 (by kernel_rfl) (by kernel_rfl) (Below.refl _ _) ?_
      repeat go_big_quiet_step (first | (go_at_call 13; with_reducible exact calls_below_of (Nat.le_refl _) (LQ.out _)))
      refine wpQuiet_nil ?_
      rintro wq ⟨⟨wq', hbq⟩, hw⟩
      replace hw : wq = wq' := hw
      subst hw
      clear y1 y2 LQ
      go_wp2_with fail
      go_ret2
      rw [HE.out]
      exact ⟨rfl, HB1.out.trans (hbq.mono HB1.out.size)⟩
    · rw [if_neg (by decide), if_neg (by decide), if_neg (by decide)] at hm0
      have HE := Lib.hid hm0
      have HP := Lib.hid (pre_size nm)
      clear hqs hql Q1 hA1 hA2 hA3 hA4 hm0
      have HE := Lib.hid (show res = (preS nm ++ wordsS ws ++ (⟨#[41]⟩ : ByteArray), 0) from HE.out)
      go_wp2_with fail
      go_loopw [4, 5] (fun v4 v wr => ∃ k : Nat, v4 = .string (preS nm ++ wordsS (ws.take k)) ∧ v = .int .i64 k ∧ k ≤ ws.length ∧ Below w1.heap.size w1 wr) (fun _ v _ => ws.length - (intOf v).toNat)
      case atStart => exact ⟨0, congrArg Value.string (pre_zero nm), rfl, by omega, Below.refl _ _⟩
      case round =>
        obtain ⟨k, rfl, rfl, hk, hbr⟩ := hrel
        have hXr := (hbr.block w.heap.size (Array.getElem?_eq_some_iff.1 HX1.out).1).trans HX1.out
        have hr3 := cell_at hXr 3
        have hsz := words_size (ws.take k) (fun x hx => HW.out x (List.mem_of_mem_take hx))
        have hpz := HP.out
        have hkm : (ws.take k).length * 400003 ≤ 100000 * 400003 := Nat.mul_le_mul_right _ (by rw [List.length_take]; omega)
        have hA1 : ¬ (9223372036854775807 < (preS nm).size + (wordsS (ws.take k)).size + 1) := by omega
        by_cases hlt : k < ws.length
        · obtain ⟨ad, eA, hy⟩ := at_S HC1.out k hlt
          subst eA
          have hyr := pw_cell_below hbr hy
          have hws := HW.out _ (List.getElem_mem hlt)
          have HTK := Lib.hid (show ws.take (k + 1) = ws.take k ++ [ws[k]] from List.take_succ_eq_append_getElem hlt)
          have C1 := Lib.hid (show Calls Tryz.prog 13 #[.string ws[k]] wr fun e w' => e = .returned (.string (quoteS ws[k])) ∧ Below wr.heap.size wr w' from rquote_calls ws[k] hws wr)
          generalize ws[k] = wd at *
          have hqd : (quoteS wd).size ≤ 400002 := by
            rw [quoteS_size]
            have := quoteL_le wd
            omega
          have hA2 : ¬ (9223372036854775807 < (preS nm).size + (wordsS (ws.take k)).size + (quoteS wd).size) := by omega
          have hA3 : ¬ (9223372036854775807 < (preS nm).size + (wordsS (ws.take k)).size + 1 + (quoteS wd).size) := by omega
          clear hsz hkm hpz hws hy
          by_cases hk0 : k = 0
          · have hk1 : ¬ ((k : Int) > 0) := by omega
            have E := Lib.hid (pre_first nm (ws.take k) wd (by rw [List.length_take]; omega))
            generalize quoteS wd = qd at *
            clear hk0
            go_wp2_with fail
            refine C1.out.mono ?_
            rintro e w2 ⟨rfl, hb2⟩
            go_wp2_with fail
            go_roundw
            case rel => exact ⟨k + 1, by rw [HTK.out, ← E.out], by go_num, by omega, hbr.trans (hb2.mono hbr.size)⟩
            case measure => simp [intOf]; omega
          · have hk1 : (k : Int) > 0 := by omega
            have E := Lib.hid (pre_more nm (ws.take k) wd (by rw [List.length_take]; omega))
            generalize quoteS wd = qd at *
            clear hk0
            go_wp2_with fail
            refine C1.out.mono ?_
            rintro e w2 ⟨rfl, hb2⟩
            go_wp2_with fail
            go_roundw
            case rel => exact ⟨k + 1, by rw [HTK.out, ← E.out], by go_num, by omega, hbr.trans (hb2.mono hbr.size)⟩
            case measure => simp [intOf]; omega
        · have htk : ws.take k = ws := List.take_of_length_le (by omega)
          have HE2 := Lib.hid (show res = (preS nm ++ wordsS (ws.take k) ++ (⟨#[41]⟩ : ByteArray), 0) by rw [htk]; exact HE.out)
          clear hsz hkm hpz htk
          go_wp2_with fail
          go_ret2
          rw [HE2.out]
          exact ⟨rfl, HB1.out.trans (hbr.mono HB1.out.size)⟩
  · have HE := Lib.hid (show res = (⟨#[]⟩, 135) by rw [← HS.out, mtextV, if_pos hk])
    generalize checkV m = e1 at *
    have he1 : (e1 != 0) = true := bne_iff_ne.2 hk
    have K1 := Lib.hid K1
    clear hk
    go_enter Tryz.func33, Tryz.ntmps33
    go_wp2_with fail
    refine K1.out.mono ?_
    rintro e w1 ⟨rfl, hb1⟩
    go_wp2_with fail
    go_ret2
    rw [HE.out]
    exact ⟨rfl, HB0.out.trans (hb1.mono HB0.out.size)⟩
end
section
open Go.RowKit Go.Proofs.YtkanfffbdegfoaaGreatDoorW.PrintWords Go.Proofs.YtkanfffbdegfoaaGreatDoorW.PrintLast Go.Proofs.YtkanfffbdegfoaaGreatDoorW.PrintMore

def markS : ByteArray := ⟨#[109, 97, 114, 107]⟩
theorem mkT (n : Nat) (hn : n ≤ 200000) (W : World) : (Instr.makeSlice 22 (.int .i64 0) (.int .i64 (n : Int))).run Tryz.prog W = .ok (.slice (some ⟨W.heap.size, 0, none⟩) 0 n) (W.alloc (.cells (madeCells (Value.string ⟨#[]⟩).cells n) 9)) := by
  obtain ⟨i0, hi, hzz⟩ := Option.map_eq_some_iff.1 info9
  simp only [Prod.mk.injEq] at hzz
  obtain ⟨hz0, hz1, hz2⟩ := hzz
  have hr := run_make (P := Tryz.prog) W 22 9 i0 (.string ⟨#[]⟩) Tryz.underlying22 hi hz0 .i64 .i64 0 (n : Int) (by omega) (by omega) (by rw [hz2]; omega) (by omega)
  rw [hz1] at hr
  simpa using hr
theorem mkT_row (n : Nat) (hn : n ≤ 200000) (W : World) : Kd.R Kd.string 9 (W.alloc (.cells (madeCells (Value.string ⟨#[]⟩).cells n) 9)) W.heap.size (fun _ => True) (.slice (some ⟨W.heap.size, 0, none⟩) 0 n) [] := by
  refine ⟨fun _ _ => trivial, [], ⟨rfl, .inr ⟨W.heap.size, n, _, rfl, Nat.le_refl _, heap_alloc_new _ _, Nat.zero_le _, by unfold maxLen; omega, ?_, rfl⟩⟩, Reps.none _ _⟩
  show ((Array.range n).map _).size = n * 1
  rw [Array.size_map, Array.size_range, Nat.mul_one]
theorem cutT (A : Option Addr) (n c j : Nat) (hj : j ≤ n) (hc : n ≤ c) : ∀ W, (Instr.slice 22 (.slice A n c) none (some (.int .i64 (j : Int))) none).run Tryz.prog W = .ok (.slice A j c) W := by
  obtain ⟨i, hi, _⟩ := Option.map_eq_some_iff.1 info9
  intro W
  have := cut_to 22 9 .i64 Tryz.underlying22 hi A n c (j : Int) (by omega) (by omega) hc W
  simpa using this
set_option maxHeartbeats 4000000 in
set_option maxRecDepth 100000 in
theorem lendT_calls (A0 : Option Addr) (c0 : Nat) (l : List ByteArray) (w : World) (hr : Kd.C Kd.string w A0 l.length l) (hl : l.length ≤ 100000) :
    Calls Tryz.prog 31 #[.slice A0 l.length c0] w fun e w' => ∃ A c, e = .returned (.slice A l.length c) ∧ Kd.R Kd.string 9 w' w.heap.size (fun _ => True) (.slice A (l.length + 9) c) (l ++ List.replicate 9 markS) ∧ Below w.heap.size w w' := by
  have hmk := mkT (l.length + 9) (by omega)
  rw [show ((l.length + 9 : Nat) : Int) = (l.length : Int) + 9 from rfl] at hmk
  have hrow := mkT_row (l.length + 9) (by omega) w
  have hb0 := (Below.refl w.heap.size w).alloc (Nat.le_refl _) (.cells (madeCells (Value.string ⟨#[]⟩).cells (l.length + 9)) 9)
  have HRow := Lib.hid hrow
  have HB0 := Lib.hid hb0
  have HC := Lib.hid (Kd.C_below hr hb0)
  clear hrow hb0 hr
  go_enter Tryz.func31, Tryz.ntmps31
  go_wp2_with (at_builtin; refine Kd.R_append_row Value.string (⟨#[]⟩ : ByteArray) (h1 := fun _ => rfl) (w0 := w) w.heap.size rfl (.tmp 9) (.tmp 10) 22 9 (.string ⟨#[]⟩) 16 rfl Tryz.underlying22 info9 rfl (by decide) _ [] l A0 l.length c0 (fun _ => True) rfl rfl (fun _ _ => trivial) HRow.out HC.out HB0.out HB0.out.size ?aL ?_; (case aL => simp only [List.length_nil]; omega); rintro v1 w1 ho1 hb1 hg1 hat1)
  rw [List.nil_append] at ho1
  have HO1 := Lib.hid (show Kd.R Kd.string 9 w1 w.heap.size (fun _ => True) v1 l from ho1)
  clear ho1 hg1 hat1 hmk
  go_wp2_with fail
  go_loopw [3, 4] (fun v3 v wr => ∃ i : Nat, v = .int .i64 i ∧ i ≤ 9 ∧ Hid (Kd.R Kd.string 9 wr w.heap.size (fun _ => True) v3 (l ++ List.replicate i markS)) ∧ Below w.heap.size w wr) (fun _ v _ => 9 - (intOf v).toNat)
  case atStart => exact ⟨0, rfl, by omega, Lib.hid (by rw [List.replicate_zero, List.append_nil]; exact HO1.out), hb1⟩
  case round =>
    obtain ⟨i, rfl, hi, hR, hbw⟩ := hrel
    by_cases hlt : i < 9
    · have HTK := Lib.hid (show l ++ List.replicate (i + 1) markS = (l ++ List.replicate i markS) ++ [markS] by rw [List.replicate_succ', List.append_assoc])
      go_wp2_with (at_builtin; refine Kd.R_append Kd.string (w0 := w) w.heap.size rfl (.tmp 16) (.tmp 17) 22 9 (.string ⟨#[]⟩) 16 rfl Tryz.underlying22 info9 rfl (by decide) (by omega) u3 (l ++ List.replicate i markS) markS [.string markS] (fun _ => True) (fun _ => False) rfl rfl ?aP (fun _ hk => hk.elim) (fun _ _ => trivial) hR.out hbw hbw.size ?aL ?_; (case aP => rfl); (case aL => rw [List.length_append, List.length_replicate]; omega); rintro v5 w5 ho hb5 hg5 hat5)
      go_roundw
      case rel => exact ⟨i + 1, by go_num, by omega, Lib.hid (by rw [HTK.out]; exact ho), hb5⟩
      case measure => simp [intOf]; omega
    · obtain rfl : i = 9 := by omega
      obtain ⟨A, c, rfl⟩ := Kd.R_slice hR.out
      have hlen : (l ++ List.replicate 9 markS).length = l.length + 9 := by rw [List.length_append, List.length_replicate]
      rw [hlen] at hR ⊢
      have hcap := (Kd.R_reads' hR.out).2.1
      have hcut := cutT A (l.length + 9) c l.length (by omega) (by omega)
      go_wp2_with fail
      go_ret
      exact ⟨A, c, rfl, hR.out, hbw⟩
theorem cutT' (A : Option Addr) (n c : Nat) (j : Int) (h0 : 0 ≤ j) (hj : j ≤ c) : ∀ W, (Instr.slice 22 (.slice A n c) none (some (.int .i64 j)) none).run Tryz.prog W = .ok (.slice A j.toNat c) W := by
  obtain ⟨i, hi, _⟩ := Option.map_eq_some_iff.1 info9
  intro W
  have ht : Tryz.prog.underlying 22 = some (.slice 9) := Tryz.underlying22
  have hel : Tryz.prog.elem 22 = 9 := by simp [Program.elem, ht]
  have hu : Tryz.prog.underlying 22 = some (.slice (Tryz.prog.elem 22)) := by rw [hel]; exact ht
  have ha : (A.map fun x => x.add 0) = A := by cases A <;> simp [Addr.add]
  rw [run_slice_h W 22 A n c hu .i64 j h0 hj, hel]
  simp [sizeOf, typeInfo, hi, sliced, Result.andThen, ha]
theorem lent_left (l : List ByteArray) (i : Nat) (h : i < l.length) : (l ++ List.replicate 9 markS)[i]'(by rw [List.length_append]; omega) = l[i] := List.getElem_append_left h
theorem lent_right (l : List ByteArray) (i : Nat) (h : ¬ i < l.length) (h2 : i < (l ++ List.replicate 9 markS).length) : (l ++ List.replicate 9 markS)[i] = (⟨#[109, 97, 114, 107]⟩ : ByteArray) := by
  rw [List.getElem_append_right (by omega), List.getElem_replicate]
  rfl
set_option maxHeartbeats 4000000 in
set_option maxRecDepth 100000 in
theorem backT_calls (A : Option Addr) (c : Nat) (A1 : Option Addr) (c1 : Nat) (l : List ByteArray) (w : World) (hX : Kd.C Kd.string w A (l ++ List.replicate 9 markS).length (l ++ List.replicate 9 markS)) (hc : l.length + 9 ≤ c) (hL : Kd.C Kd.string w A1 l.length l) (hl : l.length ≤ 100000) :
    Calls Tryz.prog 38 #[.slice A l.length c, .slice A1 l.length c1] w fun e w' => e = .returned (.bool true) ∧ Below w.heap.size w w' := by
  have HX := Lib.hid hX
  have HL := Lib.hid hL
  have hlen : (l ++ List.replicate 9 markS).length = l.length + 9 := by rw [List.length_append, List.length_replicate]
  have hcut := cutT' A l.length c ((l.length : Int) + 9) (by omega) (by omega)
  rw [show ((l.length : Int) + 9).toNat = l.length + 9 by omega] at hcut
  clear hX hL
  go_enter Tryz.func38, Tryz.ntmps38
  go_wp2_with fail
  go_loopw [5] (fun v wr => ∃ i : Nat, v = .int .i64 i ∧ i ≤ l.length ∧ Below w.heap.size w wr) (fun v _ => l.length - (intOf v).toNat)
  case atStart => exact ⟨0, rfl, by omega, Below.refl _ _⟩
  case round =>
    obtain ⟨i, rfl, hi, hbw⟩ := hrel
    by_cases hlt : i < l.length
    · obtain ⟨ad, eA, hy⟩ := at_S HX.out i (by omega)
      obtain ⟨ad1, eA1, hy1⟩ := at_S HL.out i hlt
      subst eA eA1
      rw [lent_left l i hlt] at hy
      generalize l[i] = x at *
      clear hcut
      go_upto_region 6 with (fail)
      have y0 := fun (p : BelowAt wr.heap.size wr) => pw_cell_below p.h (pw_cell_below hbw hy)
      have y1 := fun (p : BelowAt wr.heap.size wr) => pw_cell_below p.h (pw_cell_below hbw hy1)
      refine wp_region_quiet_below wr.heap.size wr (by kernel_rfl) (by kernel_rfl) (Below.refl _ _) ?_
      repeat go_big_quiet_step (fail)
      refine wpQuiet_nil ?_
      rintro wq ⟨⟨wq', hbq⟩, hw⟩
      replace hw : wq = wq' := hw
      subst hw
      clear y0 y1
      go_wp2_with fail
      go_roundw
      case rel => exact ⟨i + 1, by go_num, by omega, hbw.trans (hbq.mono hbw.size)⟩
      case measure => simp [intOf]; omega
    · go_wp2_with fail
      go_loopw [7] (fun v wi => ∃ k : Nat, v = .int .i64 k ∧ l.length ≤ k ∧ k ≤ l.length + 9 ∧ Below w.heap.size w wi) (fun v _ => l.length + 9 - (intOf v).toNat)
      case atStart => exact ⟨l.length, rfl, by omega, by omega, hbw⟩
      case round =>
        obtain ⟨k, rfl, hk0, hk, hbi⟩ := hrel
        by_cases hlk : k < l.length + 9
        · obtain ⟨ad, eA, hy⟩ := at_S HX.out k (by omega)
          subst eA
          rw [lent_right l k (by omega) (by omega)] at hy
          have hyr := pw_cell_below hbi hy
          clear hcut hy
          have hlk' : (k : Int) < ((l.length + 9 : Nat) : Int) := by omega
          go_wp2_with fail
          go_roundw
          case rel => exact ⟨k + 1, by go_num, by omega, by omega, hbi⟩
          case measure => simp [intOf]; omega
        · have hlk' : ¬ (k : Int) < ((l.length + 9 : Nat) : Int) := by omega
          go_wp2_with fail
          go_ret
          exact ⟨rfl, hbi⟩
end
section
open Go.RowKit Go.Proofs.YtkanfffbdegfoaaGreatDoorW.PrintWords Go.Proofs.YtkanfffbdegfoaaGreatDoorW.PrintLast Go.Proofs.YtkanfffbdegfoaaGreatDoorW.PrintMore

/-- A matcher that is short. -/
structure MOk (m : S84) : Prop where
  name : m.f1.size ≤ 3000
  value : m.f2.size ≤ 3000
  few : m.f3.length ≤ 100
  words : ∀ x ∈ m.f3, x.size ≤ 3000
def AsksOk (r : List S84) : Prop := r.length ≤ 60 ∧ ∀ x ∈ r, MOk x
set_option maxHeartbeats 2000000 in
theorem slim_in (L acc : List S84) (i : Nat) (hi : i < L.length) (ha : acc.length ≤ 60) (K : Nat)
    (hn : ∀ (x : S84) (k : Nat), MOk x → K ≤ k → ∃ r, fathomlaw13_slim.l0 k L (acc ++ [x]) (wrap64 ((i : Int) + 1)) = some r ∧ AsksOk r) (d : Nat) :
    ∀ (n : Nat) (a : Int) (b c : ByteArray) (ws : List ByteArray) (k : Nat), 100 - n ≤ d → n ≤ 100 → ws.length ≤ n → b.size ≤ 3000 → c.size ≤ 3000 → (∀ x ∈ ws, x.size ≤ 3000) → K + d + 1 ≤ k → ∃ r, fathomlaw13_slim.l1 k L acc (i : Int) (n : Int) a b c ws = some r ∧ AsksOk r := by
  have e0 : ∀ (n : Nat) (a : Int) (b c : ByteArray) (ws : List ByteArray) (k : Nat), n ≤ 100 → ws.length ≤ n → b.size ≤ 3000 → c.size ≤ 3000 → (∀ x ∈ ws, x.size ≤ 3000) → K ≤ k → ((n : Int) < (((rd_T84 L (i : Int)).f3).length : Int) → n = 100) → ∃ r, fathomlaw13_slim.l1 (k + 1) L acc (i : Int) (n : Int) a b c ws = some r ∧ AsksOk r := by
    intro n a b c ws k hn1 hw hb hc hx hk h
    rw [fathomlaw13_slim.l1, if_pos (by omega), if_pos (by omega)]
    by_cases h1 : (n : Int) < (((rd_T84 L (i : Int)).f3).length : Int)
    · have := h h1
      rw [if_pos h1, if_neg (by omega), if_pos (by omega)]
      exact hn _ k ⟨hb, hc, by simp only; omega, hx⟩ hk
    · rw [if_neg h1, if_pos (by omega)]
      exact hn _ k ⟨hb, hc, by simp only; omega, hx⟩ hk
  induction d with
  | zero =>
    intro n a b c ws k hd hn1 hw hb hc hx hk
    obtain ⟨k, rfl⟩ : ∃ m, k = m + 1 := ⟨k - 1, by omega⟩
    exact e0 n a b c ws k hn1 hw hb hc hx (by omega) (fun _ => by omega)
  | succ d ih =>
    intro n a b c ws k hd hn1 hw hb hc hx hk
    obtain ⟨k, rfl⟩ : ∃ m, k = m + 1 := ⟨k - 1, by omega⟩
    by_cases h12 : (n : Int) < (((rd_T84 L (i : Int)).f3).length : Int) ∧ n < 100
    · obtain ⟨h1, h2⟩ := h12
      rw [fathomlaw13_slim.l1, if_pos (by omega), if_pos (by omega), if_pos h1, if_pos (by omega), if_pos (by omega), short_f]
      simp only [Option.bind_some]
      rw [if_pos (by omega)]
      have e : wrap64 ((n : Int) + 1) = ((n + 1 : Nat) : Int) := by unfold wrap64; omega
      rw [e]
      clear e h1 hn e0
      refine ih (n + 1) a b c _ k (by omega) (by omega) (by rw [List.length_append, List.length_singleton]; omega) hb hc ?_ (by omega)
      intro y hy
      rcases List.mem_append.1 hy with hy | hy
      · exact hx y hy
      · rw [List.mem_singleton.1 hy]
        exact shortS_le _
    · exact e0 n a b c ws k hn1 hw hb hc hx (by omega) (fun h => by omega)
set_option maxHeartbeats 2000000 in
theorem slim_loop (L : List S84) (d : Nat) : ∀ (i : Nat) (acc : List S84) (k : Nat), 60 - i ≤ d → acc.length ≤ i → i ≤ 60 → (∀ x ∈ acc, MOk x) → 110 * d + 10 ≤ k → ∃ r, fathomlaw13_slim.l0 k L acc (i : Int) = some r ∧ AsksOk r := by
  have e0 : ∀ (i : Nat) (acc : List S84) (k : Nat), acc.length ≤ i → i ≤ 60 → (∀ x ∈ acc, MOk x) → (i < L.length → i = 60) → ∃ r, fathomlaw13_slim.l0 (k + 2) L acc (i : Int) = some r ∧ AsksOk r := by
    intro i acc k ha hi hac h
    rw [fathomlaw13_slim.l0, fathomlaw13_slim.j1, fathomlaw13_slim.j1]
    by_cases h1 : i < L.length
    · rw [if_pos (by omega), if_neg (by have := h h1; simp; omega)]
      exact ⟨_, rfl, by omega, hac⟩
    · rw [if_neg (by omega), if_neg (by decide)]
      exact ⟨_, rfl, by omega, hac⟩
  induction d with
  | zero =>
    intro i acc k hd ha hi hac hk
    obtain ⟨k, rfl⟩ : ∃ m, k = m + 2 := ⟨k - 2, by omega⟩
    exact e0 i acc k ha hi hac (fun _ => by omega)
  | succ d ih =>
    intro i acc k hd ha hi hac hk
    obtain ⟨k, rfl⟩ : ∃ m, k = m + 2 := ⟨k - 2, by omega⟩
    by_cases h12 : i < L.length ∧ i < 60
    · obtain ⟨h1, h2⟩ := h12
      rw [fathomlaw13_slim.l0, if_pos (by omega), fathomlaw13_slim.j1]
      rw [if_pos (by simp; omega), if_pos (by omega), if_pos (by omega), short_f, short_f]
      simp only [Option.bind_some]
      refine slim_in L acc i h1 (by omega) (110 * d + 10) ?_ 100 0 _ _ _ [] k (by omega) (by omega) (Nat.le_refl _) (shortS_le _) (shortS_le _) (fun x hx => by cases hx) (by omega)
      intro x k2 hx hk2
      have e : wrap64 ((i : Int) + 1) = ((i + 1 : Nat) : Int) := by unfold wrap64; omega
      rw [e]
      refine ih (i + 1) _ k2 (by omega) (by simp; omega) (by omega) ?_ hk2
      intro y hy
      rcases List.mem_append.1 hy with hy | hy
      · exact hac y hy
      · rw [List.mem_singleton.1 hy]
        exact hx
    · exact e0 i acc k ha hi hac (fun h => by omega)
theorem slim_f (L : List S84) : ∃ r, fathomlaw13_slim.f 7000 L = some r ∧ AsksOk r :=
  slim_loop L 60 0 [] 7000 (by omega) (Nat.le_refl _) (by omega) (fun x hx => by cases hx) (by omega)

theorem set3 {w : World} {g : Nat} {a b c d : Value} {t : TypeId} (h : w.heap[g]? = some (.cells #[a, b, c, d] t (0, 0))) (x : Value) : (w.setCell ⟨g, 3, none⟩ x).heap[g]? = some (.cells #[a, b, c, x] t (0, 0)) := by
  simp [World.setCell, Array.getElem?_modify, h]
set_option maxHeartbeats 20000000 in
set_option maxRecDepth 100000 in
theorem labelMatches_walk (A : Option Addr) (c : Nat) (l0 : List S84) (A' : Option Addr) (c' : Nat) (l1 : List (List S130)) (w : World) (hC : Kd.C k84 w A l0.length l0) (hlc : l0.length ≤ c) (hC' : Kd.C (Kd.slice 130 k130) w A' l1.length l1) (hlc' : l1.length ≤ c') (hE : WE w) :
    Calls Tryz.prog 5 #[.agg #[.slice A l0.length c, .slice A' l1.length c']] w fun e w' => e = .returned (.bool true) ∧ Below w.heap.size w w' := by
  have hx0 := heap_alloc_new w (.cells #[.slice A l0.length c, .slice A' l1.length c'] 81)
  have hb0 := (Below.refl w.heap.size w).alloc (Nat.le_refl _) (.cells #[.slice A l0.length c, .slice A' l1.length c'] 81)
  obtain ⟨M, hMf, hM60, hMok⟩ := slim_f l0
  have SL := Lib.hid (fathomlaw13_slim.calls 7000 A c l0 M (w.alloc (.cells #[.slice A l0.length c, .slice A' l1.length c'] 81)) (Kd.C_below hC hb0) hlc hMf)
  have HX0 := Lib.hid hx0
  have HB0 := Lib.hid hb0
  have HE0 := Lib.hid hE
  have HL0 := Lib.hid (Kd.C_below hC' hb0)
  have HMok := Lib.hid hMok
  have hc00 := cell_at hx0 0
  clear hx0 hb0 hMf hC hC' hE hMok
  go_enter Tryz.func5, Tryz.ntmps5
  go_wp2_with fail
  refine SL.out.mono ?_
  clear SL hc00
  rintro e w1 ⟨v1, rfl, hS1, hb1⟩
  obtain ⟨A1, c1, rfl⟩ := Kd.S_slice hS1
  have HX1 := Lib.hid ((hb1.block w.heap.size (Array.getElem?_eq_some_iff.1 HX0.out).1).trans HX0.out)
  have HB1 := Lib.hid (HB0.out.trans (hb1.mono HB0.out.size))
  have HL1 := Lib.hid (Kd.C_below HL0.out hb1)
  have HCM := Lib.hid (Kd.N_reads' (Kd.S_N hS1)).2.2
  have hs1 := HB1.out.size
  clear HX0 HB0 HL0 hb1 hS1
  go_wp2_with fail
  go_loopw [4] (fun v wr => ∃ i : Nat, v = .int .i64 i ∧ i ≤ M.length ∧ Below w1.heap.size w1 wr) (fun v _ => M.length - (intOf v).toNat)
  case atStart => exact ⟨0, rfl, by omega, Below.refl _ _⟩
  case round =>
    obtain ⟨i, rfl, hi, hbr⟩ := hrel
    by_cases hlt : i < M.length
    · obtain ⟨ad, A3, c3, eA, h0, h1, h2, h3, hl3, hC3⟩ := at_M HCM.out i hlt
      subst eA
      have hmok := HMok.out _ (List.getElem_mem hlt)
      generalize M[i] = m at *
      have HM := Lib.hid (And.intro h0 (And.intro h1 (And.intro h2 h3)))
      have HC3 := Lib.hid hC3
      have HOk := Lib.hid hmok
      have hf100 := hmok.few
      have h0' := pw_cell_below hbr h0
      have h1' := pw_cell_below hbr h1
      have h2' := pw_cell_below hbr h2
      have h3' := pw_cell_below hbr h3
      have hsr := hbr.size
      clear h0 h1 h2 h3 hC3 hmok
      go_upto_region 6 with (fail)
      have hX5 := heap_alloc_new wr (.cells #[.int .i64 m.f0, .string m.f1, .string m.f2, .slice A3 m.f3.length c3] 84)
      have hb5 := (Below.refl wr.heap.size wr).alloc (Nat.le_refl _) (.cells #[.int .i64 m.f0, .string m.f1, .string m.f2, .slice A3 m.f3.length c3] 84)
      have hbr5 := hbr.trans (hb5.mono hsr)
      have h3'' := pw_cell_below hb5 h3'
      have L1 := Lib.hid (lendT_calls A3 c3 m.f3 (wr.alloc (.cells #[.int .i64 m.f0, .string m.f1, .string m.f2, .slice A3 m.f3.length c3] 84)) (Kd.C_below HC3.out hbr5) (by omega))
      have hl5 := (Array.getElem?_eq_some_iff.1 hX5).1
      clear h0' h1' h2' h3' hb5 hbr
      generalize wr.alloc (.cells #[.int .i64 m.f0, .string m.f1, .string m.f2, .slice A3 m.f3.length c3] 84) = wa at *
      generalize wr.heap.size = g5 at *
      go_wp2_with fail
      refine L1.out.mono ?_
      clear L1 h3''
      rintro e w2 ⟨Aw, cw, rfl, hRw, hb2⟩
      have hX2 := (hb2.block g5 hl5).trans hX5
      have hbr2 := hbr5.trans (hb2.mono hbr5.size)
      have hX3 := set3 hX2 (.slice Aw m.f3.length cw)
      have hR3 := Kd.R_set hRw hX2 (fun q hq => by rcases List.mem_cons.1 hq with rfl | hq; · decide
                                                   · cases hq) 3 (.slice Aw m.f3.length cw)
      have hbr3 : Below w1.heap.size w1 (w2.setCell ⟨g5, 3, none⟩ (.slice Aw m.f3.length cw)) := hbr2.setCell hsr _
      have hc23 := cell_at hX2 3
      have hfz : w2.frozen? ⟨g5, 3, none⟩ = false := by simp [World.frozen?, hX2]
      have hcw : m.f3.length + 9 ≤ cw := by
        have h := (Kd.R_reads' hRw).2.1
        exact h
      have HLent := Lib.hid (Kd.R_reads' hR3).2.2
      clear hRw hR3 hX5 hl5 hb2 hbr5 hbr2
      go_upto_region 7 with (fail)
      generalize w2.setCell ⟨g5, 3, none⟩ (.slice Aw m.f3.length cw) = w3 at *
      have HX3 := Lib.hid hX3
      have HCW := Lib.hid (show Kd.C Kd.string w3 Aw m.f3.length m.f3 by
        have h := Kd.C_take (m := m.f3.length) HLent.out (by rw [List.length_append]; omega)
        rw [List.take_left] at h
        exact h)
      have hs3 := hbr3.size
      have h50 := cell_at hX3 0
      have h51 := cell_at hX3 1
      have h52 := cell_at hX3 2
      have h53 := cell_at hX3 3
      have T1 := Lib.hid (mtext_calls m Aw cw w3 HCW.out (by have := HOk.out.name; omega) (by have := HOk.out.value; omega) (by omega) (fun x hx => by have := HOk.out.words x hx; omega) (HE0.out.below (HB1.out.trans (hbr3.mono hs1))).tabs)
      clear hX3 hX2 hc23 hfz
      go_wp2_with fail
      refine T1.out.mono ?_
      clear T1 h50 h51 h52 h53
      rintro e w4 ⟨rfl, hb4⟩
      have hbr4 := hbr3.trans (hb4.mono hbr3.size)
      have HX4 := Lib.hid ((hb4.block g5 (Array.getElem?_eq_some_iff.1 HX3.out).1).trans HX3.out)
      have HCW4 := Lib.hid (Kd.C_below HCW.out hb4)
      have HLent4 := Lib.hid (Kd.C_below HLent.out hb4)
      have h0' := pw_cell_below hbr4 HM.out.1
      have h1' := pw_cell_below hbr4 HM.out.2.1
      have h2' := pw_cell_below hbr4 HM.out.2.2.1
      have h3' := pw_cell_below hbr4 HM.out.2.2.2
      have T2 := Lib.hid (refText_calls m A3 c3 w4 (Kd.C_below HC3.out hbr4) (by have := HOk.out.name; omega) (by have := HOk.out.value; omega) (by omega) (fun x hx => by have := HOk.out.words x hx; omega))
      clear hb4 hbr3 HX3 HCW HLent hs3
      go_wp2_with fail
      refine T2.out.mono ?_
      clear T2 h0' h1' h2' h3'
      rintro e w5 ⟨rfl, hb5⟩
      have HX5 := Lib.hid ((hb5.block g5 (Array.getElem?_eq_some_iff.1 HX4.out).1).trans HX4.out)
      have HCW5 := Lib.hid (Kd.C_below HCW4.out hb5)
      have HLent5 := Lib.hid (Kd.C_below HLent4.out hb5)
      have hbr5 := hbr4.trans (hb5.mono hbr4.size)
      have HBR5 := Lib.hid hbr5
      clear hb5 hbr4 HX4 HCW4 HLent4
      go_upto_region 9 with (fail)
      have y50 := fun (p : BelowAt w5.heap.size w5) => pw_cell_below p.h (cell_at HX5.out 0)
      have y51 := fun (p : BelowAt w5.heap.size w5) => pw_cell_below p.h (cell_at HX5.out 1)
      have y52 := fun (p : BelowAt w5.heap.size w5) => pw_cell_below p.h (cell_at HX5.out 2)
      have y53 := fun (p : BelowAt w5.heap.size w5) => pw_cell_below p.h (cell_at HX5.out 3)
      have y0 := fun (p : BelowAt w5.heap.size w5) => pw_cell_below p.h (pw_cell_below HBR5.out HM.out.1)
      have y1 := fun (p : BelowAt w5.heap.size w5) => pw_cell_below p.h (pw_cell_below HBR5.out HM.out.2.1)
      have y2 := fun (p : BelowAt w5.heap.size w5) => pw_cell_below p.h (pw_cell_below HBR5.out HM.out.2.2.1)
      have y3 := fun (p : BelowAt w5.heap.size w5) => pw_cell_below p.h (pw_cell_below HBR5.out HM.out.2.2.2)
      have LK := Lib.hid (fun (p : BelowAt w5.heap.size w5) => check_calls m Aw cw p.u (Kd.C_below HCW5.out p.h) (by omega))
      have LR := Lib.hid (fun (p : BelowAt w5.heap.size w5) => refCheck_calls m A3 c3 p.u (Kd.C_below HC3.out (HBR5.out.trans (p.h.mono HBR5.out.size))) (by have := HOk.out.name; omega) (by omega))
      have LN := Lib.hid (fun (e : Int) (p : BelowAt w5.heap.size w5) => num_calls e p.u)
      clear hbr5
      refine wp_region_quiet_below w5.heap.size w5 (by kernel_rfl) (by kernel_rfl) (Below.refl _ _) ?_
      repeat go_big_quiet_step (first | (go_at_call 34; with_reducible exact calls_below_of (Nat.le_refl _) (LK.out _)) | (go_at_call 35; with_reducible exact calls_below_of (Nat.le_refl _) (LR.out _)) | (go_at_call 14; with_reducible exact calls_below_same (LN.out _ _)))
      refine wpQuiet_nil ?_
      rintro wq ⟨⟨wq', hbq⟩, hw⟩
      replace hw : wq = wq' := hw
      subst hw
      have HX6 := Lib.hid ((hbq.block g5 (Array.getElem?_eq_some_iff.1 HX5.out).1).trans HX5.out)
      have HCW6 := Lib.hid (Kd.C_below HCW5.out hbq)
      have HLent6 := Lib.hid (Kd.C_below HLent5.out hbq)
      have HBR6 := Lib.hid (HBR5.out.trans (hbq.mono HBR5.out.size))
      clear y50 y51 y52 y53 y0 y1 y2 y3 LK LR LN hbq HX5 HCW5 HLent5 HBR5
      have hs6 := HBR6.out.size
      go_wp2_with fail
      go_loopw [10] (fun v wi => ∃ k : Nat, v = .int .i64 k ∧ k ≤ 20 ∧ Below wq.heap.size wq wi) (fun v _ => 20 - (intOf v).toNat)
      case atStart => exact ⟨0, rfl, by omega, Below.refl _ _⟩
      case round =>
        obtain ⟨k, rfl, hk, hbi⟩ := hrel
        have HB1i := Lib.hid (HBR6.out.trans (hbi.mono hs6))
        have hXi := (HB1i.out.block w.heap.size (Array.getElem?_eq_some_iff.1 HX1.out).1).trans HX1.out
        have hci := cell_at hXi 1
        by_cases hkk : k < l1.length ∧ k < 20
        · obtain ⟨hk1, hk2⟩ := hkk
          obtain ⟨ad2, A6, c6, eA, hy, hl6, hC6⟩ := at_L2 HL1.out (k : Int) (by omega) (by omega)
          subst eA
          rw [Int.toNat_natCast] at hy
          generalize rd_L2 l1 (k : Int) = l at *
          have hyr := pw_cell_below HB1i.out hy
          have F := Lib.hid (few_calls A6 c6 l wr (Kd.C_below hC6 HB1i.out) hl6)
          have hfl := fewL_len l
          go_wp2_with fail
          refine F.out.mono ?_
          clear F hci hyr hXi hy
          rintro e w7 ⟨v, rfl, hR7, hb7⟩
          obtain ⟨Af, cf, rfl⟩ := Kd.R_slice hR7
          have HF := Lib.hid (Kd.R_reads' hR7).2.2
          have hcf := (Kd.R_reads' hR7).2.1
          have HBI := Lib.hid (hbi.trans (hb7.mono hbi.size))
          clear hR7 hb7 hbi HB1i
          generalize fewL l = fl at *
          have HX7 := Lib.hid ((HBI.out.block g5 (Array.getElem?_eq_some_iff.1 HX6.out).1).trans HX6.out)
          have HB17 := Lib.hid (HBR6.out.trans (HBI.out.mono hs6))
          go_upto_region 15 with (fail)
          have y50 := fun (p : BelowAt w7.heap.size w7) => pw_cell_below p.h (cell_at HX7.out 0)
          have y51 := fun (p : BelowAt w7.heap.size w7) => pw_cell_below p.h (cell_at HX7.out 1)
          have y52 := fun (p : BelowAt w7.heap.size w7) => pw_cell_below p.h (cell_at HX7.out 2)
          have y53 := fun (p : BelowAt w7.heap.size w7) => pw_cell_below p.h (cell_at HX7.out 3)
          have y0 := fun (p : BelowAt w7.heap.size w7) => pw_cell_below p.h (pw_cell_below HB17.out HM.out.1)
          have y1 := fun (p : BelowAt w7.heap.size w7) => pw_cell_below p.h (pw_cell_below HB17.out HM.out.2.1)
          have y2 := fun (p : BelowAt w7.heap.size w7) => pw_cell_below p.h (pw_cell_below HB17.out HM.out.2.2.1)
          have y3 := fun (p : BelowAt w7.heap.size w7) => pw_cell_below p.h (pw_cell_below HB17.out HM.out.2.2.2)
          have LA := Lib.hid (fun (p : BelowAt w7.heap.size w7) => match_calls m Aw cw Af cf fl p.u (Kd.C_below HCW6.out (HBI.out.trans (p.h.mono HBI.out.size))) (by omega) (Kd.C_below HF.out p.h) hcf (by omega))
          have LB := Lib.hid (fun (p : BelowAt w7.heap.size w7) => refMatch_calls m A3 c3 Af cf fl p.u (Kd.C_below HC3.out (HB17.out.trans (p.h.mono HB17.out.size))) (by have := HOk.out.name; omega) (by omega) (Kd.C_below HF.out p.h) (by omega))
          refine wp_region_quiet_below w7.heap.size w7 (by kernel_rfl) (by kernel_rfl) (Below.refl _ _) ?_
          repeat go_big_quiet_step (first | (go_at_call 36; with_reducible exact calls_below_of (Nat.le_refl _) (LA.out _)) | (go_at_call 37; with_reducible exact calls_below_of (Nat.le_refl _) (LB.out _)))
          refine wpQuiet_nil ?_
          rintro wz ⟨⟨wz', hbz⟩, hw⟩
          replace hw : wz = wz' := hw
          subst hw
          clear y50 y51 y52 y53 y0 y1 y2 y3 LA LB
          go_wp2_with fail
          go_roundw
          case rel => exact ⟨k + 1, by go_num, by omega, HBI.out.trans (hbz.mono HBI.out.size)⟩
          case measure => simp [intOf]; omega
        · have HX7 := Lib.hid ((hbi.block g5 (Array.getElem?_eq_some_iff.1 HX6.out).1).trans HX6.out)
          have h3w := pw_cell_below HB1i.out HM.out.2.2.2
          have HBI := Lib.hid hbi
          clear hbi
          by_cases hk1 : k < l1.length
          · have hk20 : k = 20 := by omega
            subst hk20
            go_upto_region 17 with (fail)
            have y53 := fun (p : BelowAt wr.heap.size wr) => pw_cell_below p.h (cell_at HX7.out 3)
            have y3 := fun (p : BelowAt wr.heap.size wr) => pw_cell_below p.h h3w
            have LB := Lib.hid (fun (p : BelowAt wr.heap.size wr) => backT_calls Aw cw A3 c3 m.f3 p.u (Kd.C_below HLent6.out (HBI.out.trans (p.h.mono HBI.out.size))) hcw (Kd.C_below HC3.out (HB1i.out.trans (p.h.mono HB1i.out.size))) (by omega))
            refine wp_region_quiet_below wr.heap.size wr (by kernel_rfl) (by kernel_rfl) (Below.refl _ _) ?_
            repeat go_big_quiet_step (first | (go_at_call 38; with_reducible exact calls_below_of (Nat.le_refl _) (LB.out _)))
            refine wpQuiet_nil ?_
            rintro wz ⟨⟨wz', hbz⟩, hw⟩
            replace hw : wz = wz' := hw
            subst hw
            clear y53 y3 LB
            go_wp2_with fail
            go_roundw
            case rel => exact ⟨i + 1, by go_num, by omega, HB1i.out.trans (hbz.mono HB1i.out.size)⟩
            case measure => simp [intOf]; omega
          · clear hkk
            go_upto_region 17 with (fail)
            have y53 := fun (p : BelowAt wr.heap.size wr) => pw_cell_below p.h (cell_at HX7.out 3)
            have y3 := fun (p : BelowAt wr.heap.size wr) => pw_cell_below p.h h3w
            have LB := Lib.hid (fun (p : BelowAt wr.heap.size wr) => backT_calls Aw cw A3 c3 m.f3 p.u (Kd.C_below HLent6.out (HBI.out.trans (p.h.mono HBI.out.size))) hcw (Kd.C_below HC3.out (HB1i.out.trans (p.h.mono HB1i.out.size))) (by omega))
            refine wp_region_quiet_below wr.heap.size wr (by kernel_rfl) (by kernel_rfl) (Below.refl _ _) ?_
            repeat go_big_quiet_step (first | (go_at_call 38; with_reducible exact calls_below_of (Nat.le_refl _) (LB.out _)))
            refine wpQuiet_nil ?_
            rintro wz ⟨⟨wz', hbz⟩, hw⟩
            replace hw : wz = wz' := hw
            subst hw
            clear y53 y3 LB
            go_wp2_with fail
            go_roundw
            case rel => exact ⟨i + 1, by go_num, by omega, HB1i.out.trans (hbz.mono HB1i.out.size)⟩
            case measure => simp [intOf]; omega
    · have HBR := Lib.hid hbr
      have hsr := hbr.size
      go_wp2_with fail
      go_loopw [12] (fun v wi => ∃ k : Nat, v = .int .i64 k ∧ k ≤ 60 ∧ Below wr.heap.size wr wi) (fun v _ => 60 - (intOf v).toNat)
      case atStart => exact ⟨0, rfl, by omega, Below.refl _ _⟩
      case round =>
        clear hbr
        obtain ⟨k, rfl, hk, hbi⟩ := hrel
        have HB1i := Lib.hid (HBR.out.trans (hbi.mono hsr))
        have hXi := (HB1i.out.block w.heap.size (Array.getElem?_eq_some_iff.1 HX1.out).1).trans HX1.out
        have hci := cell_at hXi 1
        by_cases hkk : k < l1.length ∧ k < 60
        · obtain ⟨hk1, hk2⟩ := hkk
          obtain ⟨ad2, A6, c6, eA, hy, hl6, hC6⟩ := at_L2 HL1.out (k : Int) (by omega) (by omega)
          subst eA
          rw [Int.toNat_natCast] at hy
          generalize rd_L2 l1 (k : Int) = l at *
          have hyr := pw_cell_below HB1i.out hy
          have F := Lib.hid (few_calls A6 c6 l wr (Kd.C_below hC6 HB1i.out) hl6)
          have hfl := fewL_len l
          go_wp2_with fail
          refine F.out.mono ?_
          clear F hci hyr hXi hy
          rintro e w7 ⟨v, rfl, hR7, hb7⟩
          obtain ⟨Af, cf, rfl⟩ := Kd.R_slice hR7
          have HF := Lib.hid (Kd.R_reads' hR7).2.2
          have hcf := (Kd.R_reads' hR7).2.1
          have HBI := Lib.hid (hbi.trans (hb7.mono hbi.size))
          have HB17 := Lib.hid (HB1i.out.trans (hb7.mono HB1i.out.size))
          clear hR7 hb7 hbi
          generalize fewL l = fl at *
          have CA := Lib.hid (matchAll_calls A1 c1 M Af cf fl w7 (Kd.C_below HCM.out HB17.out) (by omega) (fun m hm => by have := (HMok.out m hm).few; omega) HF.out hcf (by omega))
          go_wp2_with fail
          refine CA.out.mono ?_
          clear CA
          rintro e w8 ⟨rfl, hb8⟩
          have CB := Lib.hid (refAll_calls A1 c1 M Af cf fl w8 (Kd.C_below HCM.out (HB17.out.trans (hb8.mono HB17.out.size))) (by omega) (fun m hm => ⟨by have := (HMok.out m hm).name; omega, by have := (HMok.out m hm).few; omega⟩) (Kd.C_below HF.out hb8) (by omega))
          go_wp2_with fail
          refine CB.out.mono ?_
          clear CB
          rintro e w9 ⟨rfl, hb9⟩
          have hbi8 := HBI.out.trans (hb8.mono HBI.out.size)
          go_wp2_with fail
          go_roundw
          case rel => exact ⟨k + 1, by go_num, by omega, hbi8.trans (hb9.mono hbi8.size)⟩
          case measure => simp [intOf]; omega
        · by_cases hk1 : k < l1.length
          · have hk60 : k = 60 := by omega
            subst hk60
            have CA := matchAll_calls none 0 [] none 0 [] wr (Kd.C_nil _ _) (by simp) (fun m hm => by cases hm) (Kd.C_nil _ _) (Nat.le_refl _) (by simp)
            rw [show allV [] [] = true from rfl] at CA
            have CA := Lib.hid CA
            have CW := Lib.hid (fun (W : World) (hW : Below wr.heap.size wr W) => works_calls W (HE0.out.below (HB1.out.trans (HB1i.out.trans (hW.mono HB1i.out.size) |>.mono hs1))))
            go_wp2_with fail
            refine CA.out.mono ?_
            rintro e w8 ⟨rfl, hb8⟩
            have C9 := Lib.hid (CW.out w8 hb8)
            go_wp2_with fail
            refine C9.out.mono ?_
            rintro e w9 ⟨rfl, hb9⟩
            go_wp2_with fail
            go_ret
            have hbz := HB1.out.trans (HB1i.out.mono hs1)
            have hbz2 := hbz.trans (hb8.mono hbz.size)
            exact ⟨rfl, hbz2.trans (hb9.mono hbz2.size)⟩
          · clear hkk
            have CA := matchAll_calls none 0 [] none 0 [] wr (Kd.C_nil _ _) (by simp) (fun m hm => by cases hm) (Kd.C_nil _ _) (Nat.le_refl _) (by simp)
            rw [show allV [] [] = true from rfl] at CA
            have CA := Lib.hid CA
            have CW := Lib.hid (fun (W : World) (hW : Below wr.heap.size wr W) => works_calls W (HE0.out.below (HB1.out.trans (HB1i.out.trans (hW.mono HB1i.out.size) |>.mono hs1))))
            go_wp2_with fail
            refine CA.out.mono ?_
            rintro e w8 ⟨rfl, hb8⟩
            have C9 := Lib.hid (CW.out w8 hb8)
            go_wp2_with fail
            refine C9.out.mono ?_
            rintro e w9 ⟨rfl, hb9⟩
            go_wp2_with fail
            go_ret
            have hbz := HB1.out.trans (HB1i.out.mono hs1)
            have hbz2 := hbz.trans (hb8.mono hbz.size)
            exact ⟨rfl, hbz2.trans (hb9.mono hbz2.size)⟩
/-! ### how the argument is read -/
section
open Go.ChangeShapes Go.WideShapes Go.ChangeAt Go.Deep
theorem len4 {l : List Value} (h : l.length = 4) : ∃ a b c d, l = [a, b, c, d] := by
  rcases l with _ | ⟨a, _ | ⟨b, _ | ⟨c, _ | ⟨d, _ | ⟨e, l⟩⟩⟩⟩⟩
  · simp at h
  · simp at h
  · simp at h
  · simp at h
  · exact ⟨a, b, c, d, rfl⟩
  · simp at h
theorem opens_struct4 {α β γ δ : Type} {d0 : Kd α} {d1 : Kd β} {d2 : Kd γ} {d3 : Kd δ} {t : TypeId} {f0 f1 f2 f3 : Field} (hs : Tryz.prog.underlying t = some (.struct #[f0, f1, f2, f3])) (h0 : f0.offset = 0) (h1 : f1.offset = 1) (h2 : f2.offset = 2) (h3 : f3.offset = 3) (s0 : Tryz.prog.cellsOf f0.type = 1) (s1 : Tryz.prog.cellsOf f1.type = 1) (s2 : Tryz.prog.cellsOf f2.type = 1) (s3 : Tryz.prog.cellsOf f3.type = 1) (hc : Tryz.prog.cellsOf t = 4)
    (o0 : Opens d0 f0.type) (o1 : Opens d1 f1.type) (o2 : Opens d2 f2.type) (o3 : Opens d3 f3.type) : Opens (Kd.pair d0 (Kd.pair d1 (Kd.pair d2 d3))) t := by
  intro H enc w base spare held fuel cs x h
  obtain ⟨xs, n, _, _, hlen, hxl, hf⟩ := DataW.trod_struct hs h
  have g0 := hf 0 f0 rfl
  have g1 := hf 1 f1 rfl
  have g2 := hf 2 f2 rfl
  have g3 := hf 3 f3 rfl
  rw [h0, s0, List.drop_zero] at g0
  rw [h1, s1] at g1
  rw [h2, s2] at g2
  rw [h3, s3] at g3
  have hl0 : 0 < xs.length := by rw [hxl]; simp
  have hl1 : 1 < xs.length := by rw [hxl]; simp
  have hl2 : 2 < xs.length := by rw [hxl]; simp
  have hl3 : 3 < xs.length := by rw [hxl]; simp
  rw [List.getElem?_eq_getElem hl0] at g0
  rw [List.getElem?_eq_getElem hl1] at g1
  rw [List.getElem?_eq_getElem hl2] at g2
  rw [List.getElem?_eq_getElem hl3] at g3
  obtain ⟨a, ha⟩ := o0 enc w base spare held n _ _ g0
  obtain ⟨b, hb⟩ := o1 enc w base spare held n _ _ g1
  obtain ⟨c, hc'⟩ := o2 enc w base spare held n _ _ g2
  obtain ⟨e, he⟩ := o3 enc w base spare held n _ _ g3
  have h4 : cs.length = 4 := by omega
  obtain ⟨x0, x1, x2, x3, rfl⟩ := len4 h4
  exact ⟨(a, b, c, e), [x0], [x1, x2, x3], rfl, ha, [x1], [x2, x3], rfl, hb, [x2], [x3], rfl, hc', he⟩
theorem opens84 : Opens k84 84 :=
  opens_iso (fun p => ⟨p.1, p.2.1, p.2.2.1, p.2.2.2⟩) (fun _ => rfl) (opens_struct4 Tryz.underlying84 rfl rfl rfl rfl (by kernel_rfl) (by kernel_rfl) (by kernel_rfl) (by kernel_rfl) (by kernel_rfl) (opens_int (by kernel_rfl)) (opens_string (by kernel_rfl)) (opens_string (by kernel_rfl)) opens22)
theorem opensLLm : Opens (Kd.slice 59 (Kd.slice 130 k130)) 23 := opens_slice Tryz.underlying23 (by kernel_rfl) opens59
theorem opensMM : Opens (Kd.slice 84 k84) 79 := opens_slice Tryz.underlying79 (by kernel_rfl) opens84
end
end
end Go.Proofs.YtkanfffbdegfoaaGreatDoor.PD
