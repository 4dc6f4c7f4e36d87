/- fathomlaw13.LabelQuoted: for every argument it returns true; what was there is as it was. No condition but the environment's (the tables). -/
import Derived.Test.YtkanfffbdegfoaaDoorKU
import Derived.Test.YtkanfffbdegfoaaDoorKS
namespace Go.Proofs.YtkanfffbdegfoaaDoor.PD
set_option linter.unusedVariables false
set_option linter.unusedSimpArgs false
open Go.RowKit Go.Proofs.YtkanfffbdegfoaaDoorW.PrintWords Go.Proofs.YtkanfffbdegfoaaDoorW.PrintLast Go.Proofs.YtkanfffbdegfoaaDoorW.PrintMore

theorem bytes_size (l : List UInt8) : (⟨l.toArray⟩ : ByteArray).size = l.length := by simp [ByteArray.size]
theorem bytes_data (l : List UInt8) : (⟨l.toArray⟩ : ByteArray).data.toList = l := by simp
theorem app_data (a b : ByteArray) : (a ++ b).data.toList = a.data.toList ++ b.data.toList := by
  rw [ByteArray.data_append, Array.toList_append]
/-- What the walk asks of a quoted text. -/
structure Quoted (s q tl : ByteArray) : Prop where
  size : q.size ≤ 12002
  whole : unqAll (q ++ tl) = (s, (q.size : Int), 0)
  part : ∀ k, k < q.size → unqAll (q.extract 0 k) = (⟨#[]⟩, 0, 134)
  low : ∀ k (h : k < q.size), ¬ ((q[k].toNat : Int) < 32) ∧ (((q[k].toNat : Int)) == 127) = false
theorem quoted_of (s tl : ByteArray) (hs : s.size ≤ 3000) : Quoted s ⟨(quoteL s).toArray⟩ tl where
  size := by
    rw [bytes_size]
    have := quoteL_le s
    omega
  whole := by
    rw [unq_quote s _ tl.data.toList (by rw [app_data, bytes_data]), bytes_size]
  part := fun k hk => by
    rw [bytes_size] at hk
    refine unq_part s _ k hk ?_
    rw [Lib.extract_data, bytes_data]
    simp
  low := fun k hk => by
    have h := quoteL_bytes s ((⟨(quoteL s).toArray⟩ : ByteArray)[k]) (by
      have : (⟨(quoteL s).toArray⟩ : ByteArray)[k] = (quoteL s)[k]'(by rw [bytes_size] at hk; exact hk) := rfl
      rw [this]
      exact List.getElem_mem _)
    constructor
    · omega
    · simp; omega

set_option maxHeartbeats 8000000 in
set_option maxRecDepth 100000 in
theorem labelQuoted_walk (A : Option Addr) (c : Nat) (l : List ByteArray) (tl0 : ByteArray) (w : World) (hC : Kd.C Kd.string w A l.length l) (_hlc : l.length ≤ c) (hE : WE w) :
    Calls Tryd.prog 4 #[.agg #[.slice A l.length c, .string tl0]] w fun e w' => e = .returned (.bool true) ∧ Below w.heap.size w w' := by
  have hx0 := heap_alloc_new w (.cells #[.slice A l.length c, .string tl0] 39)
  have hb0 := (Below.refl w.heap.size w).alloc (Nat.le_refl _) (.cells #[.slice A l.length c, .string tl0] 39)
  have S0 := Lib.hid (short_calls tl0 (w.alloc (.cells #[.slice A l.length c, .string tl0] 39)))
  have htl := shortS_le tl0
  have hll : l.length ≤ 9223372036854775807 := hC.2.1
  revert S0 htl
  generalize shortS tl0 = tl
  intro S0 htl
  have HX0 := Lib.hid hx0
  have HB0 := Lib.hid hb0
  have HE0 := Lib.hid (hE.below hb0)
  have HC0 := Lib.hid (Kd.C_below hC hb0)
  clear hx0 hb0 hE hC
  go_enter Tryd.func4, Tryd.ntmps4
  go_wp2_with fail
  refine S0.out.mono ?_
  clear S0
  rintro e w1 ⟨rfl, hb1⟩
  have HX1 := Lib.hid ((hb1.block w.heap.size (Array.getElem?_eq_some_iff.1 HX0.out).1).trans HX0.out)
  have HB1 := Lib.hid (HB0.out.trans (hb1.mono HB0.out.size))
  have HE1 := Lib.hid (HE0.out.below hb1)
  have HC1 := Lib.hid (Kd.C_below HC0.out hb1)
  clear HX0 HB0 HE0 HC0 hb1
  go_wp2_with fail
  go_loopw [4] (fun v4 wr => ∃ k : Nat, v4 = .int .i64 k ∧ k ≤ 60 ∧ Below w1.heap.size w1 wr) (fun v _ => 60 - (intOf v).toNat)
  case atStart => exact ⟨0, rfl, by omega, Below.refl _ _⟩
  case round =>
    obtain ⟨k, rfl, hk, hbw⟩ := hrel
    have hxr := (hbw.block w.heap.size (Array.getElem?_eq_some_iff.1 HX1.out).1).trans HX1.out
    have hc0 := cell_at hxr 0
    by_cases hlt : k < l.length
    · by_cases h60 : k < 60
      · obtain ⟨ad, eA, h0⟩ := at_S HC1.out k hlt
        subst eA
        have h0' := pw_cell_below hbw h0
        clear h0 hxr
        have S2 := Lib.hid (short_calls l[k] wr)
        have hsl := shortS_le l[k]
        have HQ := quoted_of (shortS l[k]) tl hsl
        have Q2 := fun (W : World) (hT : Lib.Utf8Tabs 0 1 W) => quote_any (shortS l[k]) W (by omega) (Or.inl hT)
        revert S2 hsl HQ Q2
        generalize l[k] = s0 at *
        generalize shortS s0 = s
        generalize (⟨(quoteL s).toArray⟩ : ByteArray) = q
        intro S2 hsl HQ Q2
        have hqs := HQ.size
        have HQ2 := Lib.hid Q2
        have HQ3 := Lib.hid HQ
        clear Q2 HQ
        go_wp2_with fail
        refine S2.out.mono ?_
        clear S2
        rintro e w2 ⟨rfl, hb2⟩
        have hbw2 := hbw.trans (hb2.mono hbw.size)
        clear hbw hb2 hc0 h0'
        go_wp2_with fail
        refine (HQ2.out w2 (HE1.out.below hbw2).tabs).mono ?_
        clear HQ2
        rintro e w3 ⟨rfl, hb3⟩
        have hbw3 := hbw2.trans (hb3.mono hbw2.size)
        clear hbw2 hb3
        have hA1 : ¬ (9223372036854775807 < q.size + tl.size) := by omega
        have U3 := unquote_any (q ++ tl) w3 (by rw [ByteArray.size_append]; omega)
        rw [HQ3.out.whole] at U3
        have HU3 := Lib.hid U3
        clear U3
        go_wp2_with fail
        refine HU3.out.mono ?_
        clear HU3
        rintro e w4 ⟨rfl, hb4⟩
        have hbw4 := hbw3.trans (hb4.mono hbw3.size)
        clear hbw3 hb4
        go_wp2_with (first | (go_at_call 12; (with_reducible refine (num_calls _ _).mono ?_); rintro en wx ⟨rfl, hwx⟩; subst wx))
        go_loopw [10] (fun v10 wr => ∃ j : Nat, v10 = .int .i64 j ∧ j ≤ q.size ∧ Below w1.heap.size w1 wr) (fun v _ => q.size - (intOf v).toNat)
        case atStart => exact ⟨0, rfl, by omega, hbw4⟩
        case round =>
          clear hbw4
          obtain ⟨j, rfl, hj, hbj⟩ := hrel
          by_cases hjq : j < q.size
          · have U5 := unquote_any (q.extract 0 j) wr (by rw [ByteArray.size_extract]; omega)
            rw [HQ3.out.part j hjq] at U5
            have HU5 := Lib.hid U5
            obtain ⟨hl32, hl127⟩ := HQ3.out.low j hjq
            clear U5
            go_wp2_with fail
            refine HU5.out.mono ?_
            clear HU5
            rintro e w5 ⟨rfl, hb5⟩
            have hbj5 := hbj.trans (hb5.mono hbj.size)
            clear hbj hb5
            by_cases hk4 : 400 < j
            · by_cases hk5 : (j : Int) < (q.size : Int) - 400
              · go_wp2_with (first | (go_at_call 12; (with_reducible refine (num_calls _ _).mono ?_); rintro en wx ⟨rfl, hwx⟩; subst wx))
                go_roundw
                case rel => exact ⟨q.size - 399, by rw [show ((q.size - 399 : Nat) : Int) = (q.size : Int) - 400 + 1 by omega], by omega, hbj5⟩
                case measure => simp [intOf]; omega
              · go_wp2_with (first | (go_at_call 12; (with_reducible refine (num_calls _ _).mono ?_); rintro en wx ⟨rfl, hwx⟩; subst wx))
                go_roundw
                case rel => exact ⟨j + 1, by go_num, by omega, hbj5⟩
                case measure => simp [intOf]; omega
            · go_wp2_with (first | (go_at_call 12; (with_reducible refine (num_calls _ _).mono ?_); rintro en wx ⟨rfl, hwx⟩; subst wx))
              go_roundw
              case rel => exact ⟨j + 1, by go_num, by omega, hbj5⟩
              case measure => simp [intOf]; omega
          · go_wp2
            go_roundw
            case rel => exact ⟨k + 1, by go_num, by omega, hbj⟩
            case measure => simp [intOf]; omega
      · clear hxr
        have W5 := works_calls wr (HE1.out.below hbw)
        go_wp2_with fail
        refine W5.mono ?_
        rintro en w5 ⟨rfl, hb5⟩
        have hbz := hbw.trans (hb5.mono hbw.size)
        go_wp2
        go_ret
        exact ⟨rfl, HB1.out.trans (hbz.mono HB1.out.size)⟩
    · clear hxr
      have W5 := works_calls wr (HE1.out.below hbw)
      go_wp2_with fail
      refine W5.mono ?_
      rintro en w5 ⟨rfl, hb5⟩
      have hbz := hbw.trans (hb5.mono hbw.size)
      go_wp2
      go_ret
      exact ⟨rfl, HB1.out.trans (hbz.mono HB1.out.size)⟩
end Go.Proofs.YtkanfffbdegfoaaDoor.PD
