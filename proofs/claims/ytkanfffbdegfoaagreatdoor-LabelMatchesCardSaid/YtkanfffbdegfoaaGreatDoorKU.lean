/- How the laws' arguments are read: slices and structs of strings, whole numbers, labels; what the laid tables give. No condition beyond what each states. Plain facts for fathomlaw13.works: its three labels, their set, its text, its key, what is read of a text. -/
import Derived.Test.YtkanfffbdegfoaaGreatDoorKE
import Derived.Test.YtkanfffbdegfoaaGreatDoorCards
import Derived.Test.YtkanfffbdegfoaaGreatDoorTie
import Derived.ProofKit
import Derived.OpenShut
import Derived.Carry
import Derived.Deep.DeepHandedRow
import Derived.Deep.Slices
import Derived.Lib.LaidTab
import Derived.PinnedBridge
import Derived.Shelf.Vars
import Derived.Lib.LaidU8T
import Derived.Test.YtkanfffbdegfoaaGreatDoorKG
import Derived.Test.YtkanfffbdegfoaaGreatDoorKS
namespace Go.Proofs.YtkanfffbdegfoaaGreatDoor.PD
set_option linter.unusedVariables false
set_option linter.unusedSimpArgs false
section
open Go.Lib (acceptData firstData)
open Go.RowKit Go.ChangeShapes Go.WideShapes Go.Deep Go.Proofs.YtkanfffbdegfoaaGreatDoorW.PrintWords Go.Proofs.YtkanfffbdegfoaaGreatDoorW.PrintLast Go.Proofs.YtkanfffbdegfoaaGreatDoorW.PrintMore

/-- What the walks ask of the world: package utf8's tables, package bytealg's variable. -/
structure WE (w : World) : Prop where
  tabs : Lib.Utf8Tabs 0 1 w
  max : MaxOk w
theorem WE.below {w w' : World} (h : WE w) (hb : Below w.heap.size w w') : WE w' := ⟨Utf8Tabs_below h.tabs hb, h.max.below hb⟩

/-- What is read of a type's cells is of this kind. -/
def Opens {α : Type} (k : Kd α) (t : TypeId) : Prop :=
  ∀ {H : Type} (enc : TypeId × Value → H) (w : World) (base : Nat) (spare : Nat → Bool) (held : Bool) (fuel : Nat) (cs : List Value) (x : DataW H × List MemPlace), DataW.trod enc Tryz.prog w base spare held fuel t cs = some x → ∃ a, k.K w a cs
theorem opens_string {t : TypeId} (hu : Tryz.prog.underlying t = some .string) : Opens Kd.string t := by
  intro H enc w base spare held fuel cs x h
  obtain ⟨s, rfl, _, _⟩ := DataW.trod_string hu h
  exact ⟨s, rfl⟩
theorem opens_int {t : TypeId} {k : IntKind} (hu : Tryz.prog.underlying t = some (.int k)) : Opens (Kd.int k) t := by
  intro H enc w base spare held fuel cs x h
  obtain ⟨n, rfl, _, _⟩ := DataW.trod_int hu h
  exact ⟨n, rfl⟩
theorem choose_list {α : Type} {p : Nat → α → Prop} : ∀ (n : Nat), (∀ i, i < n → ∃ a, p i a) → ∃ l : List α, l.length = n ∧ ∀ i a, l[i]? = some a → p i a
  | 0, _ => ⟨[], rfl, fun i a h => by simp at h⟩
  | n + 1, h => by
    obtain ⟨l, hl, hp⟩ := choose_list n (fun i hi => h i (by omega))
    obtain ⟨a, ha⟩ := h n (by omega)
    refine ⟨l ++ [a], by simp [hl], fun i b hb => ?_⟩
    by_cases hi : i < n
    · rw [List.getElem?_append_left (by omega)] at hb
      exact hp i b hb
    · have hlt : i < (l ++ [a]).length := (List.getElem?_eq_some_iff.1 hb).1
      rw [List.length_append, hl] at hlt
      simp at hlt
      obtain rfl : i = n := by omega
      rw [List.getElem?_append_right (by omega), hl, Nat.sub_self] at hb
      obtain rfl : a = b := by simpa using hb
      exact ha
theorem opens_slice {α : Type} {d : Kd α} {t e : TypeId} (ht : Tryz.prog.underlying t = some (.slice e)) (hsz : Tryz.prog.cellsOf e = d.sz) (hd : Opens d e) : Opens (Kd.slice e d) t := by
  intro H enc w base spare held fuel cs x h
  rcases open_slice ht h with ⟨rfl, _⟩ | ⟨a, len, cap, m, n, D, Pl, rfl, _, hl, hm, hmm, _, hi⟩
  · exact ⟨[], none, 0, rfl, Nat.le_refl _, rfl, by simp, fun h => absurd h (by simp)⟩
  · have hlm : len ≤ m := by rw [hmm]; split <;> omega
    obtain ⟨l, hll, hp⟩ := choose_list (p := fun i b => ∃ c, c.length = d.sz ∧ d.K w b c ∧ ∀ j u, c[j]? = some u → w.cell? (a.add (i * d.sz + j)) = some u) len (fun i hi' => by
      obtain ⟨cs', hc, ht'⟩ := hi i (by omega)
      obtain ⟨b, hb⟩ := hd enc w base spare held n cs' _ ht'
      obtain ⟨_, hcl, hat⟩ := World.cells?_some hc
      refine ⟨b, cs', by rw [hcl, hsz], hb, fun j u hj => ?_⟩
      have hj' : j < cs'.length := (List.getElem?_eq_some_iff.1 hj).1
      rw [← hsz, ← Go.Deep.add_add, hat j (by omega), hj])
    refine ⟨l, some a, cap, by rw [hll], by omega, rfl, ?_, fun _ => ⟨a, rfl, fun j p hj => hp j p hj⟩⟩
    rw [hll]
    unfold maxLen at hm
    omega
theorem opens_iso {α β : Type} {d : Kd α} {f : β → α} {t : TypeId} (g : α → β) (hfg : ∀ a, f (g a) = a) (hd : Opens d t) : Opens (Kd.iso d f) t := by
  intro H enc w base spare held fuel cs x h
  obtain ⟨a, ha⟩ := hd enc w base spare held fuel cs x h
  exact ⟨g a, by show d.K w (f (g a)) cs; rw [hfg]; exact ha⟩
theorem opens_struct2 {α β : Type} {d0 : Kd α} {d1 : Kd β} {t : TypeId} {f0 f1 : Field} (hs : Tryz.prog.underlying t = some (.struct #[f0, f1])) (h0 : f0.offset = 0) (h1 : f1.offset = d0.sz) (s0 : Tryz.prog.cellsOf f0.type = d0.sz) (s1 : Tryz.prog.cellsOf f1.type = d1.sz) (hc : Tryz.prog.cellsOf t = d0.sz + d1.sz)
    (o0 : Opens d0 f0.type) (o1 : Opens d1 f1.type) : Opens (Kd.pair d0 d1) t := by
  intro H enc w base spare held fuel cs x h
  obtain ⟨xs, n, _, _, hlen, hxl, hf⟩ := DataW.trod_struct hs h
  have g0 := hf 0 f0 rfl
  have g1 := hf 1 f1 rfl
  rw [h0, s0, List.drop_zero] at g0
  rw [h1, s1] at g1
  have hl0 : 0 < xs.length := by rw [hxl]; simp
  have hl1 : 1 < xs.length := by rw [hxl]; simp
  rw [List.getElem?_eq_getElem hl0] at g0
  rw [List.getElem?_eq_getElem hl1] at g1
  obtain ⟨a, ha⟩ := o0 enc w base spare held n _ _ g0
  obtain ⟨b, hb⟩ := o1 enc w base spare held n _ _ g1
  refine ⟨(a, b), cs.take d0.sz, (cs.drop d0.sz).take d1.sz, ?_, ha, hb⟩
  rw [List.take_of_length_le (l := cs.drop d0.sz) (by rw [List.length_drop]; omega), List.take_append_drop]
theorem opens130 : Opens k130 130 :=
  opens_iso (fun p => ⟨p.1, p.2⟩) (fun _ => rfl) (opens_struct2 Tryz.underlying130 rfl rfl (by kernel_rfl) (by kernel_rfl) (by kernel_rfl) (opens_string Tryz.underlying9) (opens_string Tryz.underlying9))
theorem opens59 : Opens (Kd.slice 130 k130) 59 := opens_slice Tryz.underlying59 (by kernel_rfl) opens130
theorem opens22 : Opens (Kd.slice 9 Kd.string) 22 := opens_slice Tryz.underlying22 (by kernel_rfl) (opens_string Tryz.underlying9)

/-! ### the laid tables -/
theorem env_of {W : World} (hL : laidMetH Tryz.prog [("unicode/utf8.acceptRanges", Rows.laid_unicode_utf8_acceptRanges), ("unicode/utf8.first", Rows.laid_unicode_utf8_first)] W) (hS : W.ShapedOpen Tryz.prog) : WE W := by
  have hL' : laidMet Tryz.prog [("unicode/utf8.acceptRanges", Rows.laid_unicode_utf8_acceptRanges), ("unicode/utf8.first", Rows.laid_unicode_utf8_first)] W := hL
  have h3 : Lib.VarReads Tryz.prog W "unicode/utf8.first" firstData := by
    rw [← Pinned.utf8First_eq]
    exact Lib.laidMet.reads hL' (.tail _ (.head _))
  have h4 : Lib.VarReads Tryz.prog W "unicode/utf8.acceptRanges" acceptData := by
    have e : acceptData = Rows.laid_unicode_utf8_acceptRanges := by kernel_rfl
    rw [e]
    exact Lib.laidMet.reads hL' (.head _)
  refine ⟨utf8Tabs_of_readsT (ρ := Tryz.lays197_ren) ⟨by kernel_rfl, by kernel_rfl, by kernel_rfl, by kernel_rfl⟩ ⟨by kernel_rfl, by kernel_rfl, by kernel_rfl, by kernel_rfl, by kernel_rfl, by kernel_rfl, by kernel_rfl⟩ h3 h4, ?_⟩
  · exact cell_of_shapedOpen_int (zero := #[.int .i64 0]) (t := 3) hS (of_decide_eq_true (by kernel_rfl)) (by kernel_rfl) rfl (by kernel_rfl) (by kernel_rfl) Tryz.underlying3
end
section
open Go.RowKit Go.Proofs.YtkanfffbdegfoaaGreatDoorW.PrintWords Go.Proofs.YtkanfffbdegfoaaGreatDoorW.PrintLast Go.Proofs.YtkanfffbdegfoaaGreatDoorW.PrintMore

def wA : S130 := ⟨⟨#[97]⟩, ⟨#[121]⟩⟩
def wB : S130 := ⟨⟨#[98]⟩, ⟨#[120]⟩⟩
def wC : S130 := ⟨⟨#[99]⟩, ⟨#[]⟩⟩
theorem w_isSet : isSetL [wA, wB] = true := by kernel_rfl
theorem w_set2 : setL [wB, wA] = ([wA, wB], 0) := set_of_set w_isSet (List.Perm.swap wA wB [])
theorem w_fit : fitL [wB, wA, wC] := by
  refine ⟨fun x hx => ?_, ?_⟩
  · simp only [List.mem_cons, List.mem_nil_iff, or_false] at hx
    rcases hx with rfl | rfl | rfl <;> exact ⟨by kernel_rfl, by kernel_rfl⟩
  · show ([[98], [97], [99]] : List (List UInt8)).Nodup
    decide
theorem w_full : full [wB, wA, wC] = [wB, wA] := by kernel_rfl
theorem w_full2 : full [wB, wA] = [wB, wA] := by kernel_rfl
theorem w_set : setL [wB, wA, wC] = ([wA, wB], 0) := by
  rw [set_of_fit w_fit (by rw [w_full]; decide), w_full]
  have h := w_set2
  rw [set_of_fit ((fit_perm (List.Perm.swap wB wA [])).1 (isSet_fit w_isSet).1) (by rw [w_full2]; decide), w_full2] at h
  exact h
theorem w_text : textL [wA, wB] = (⟨#[123, 97, 61, 34, 121, 34, 44, 98, 61, 34, 120, 34, 125]⟩, 0) := by kernel_rfl
theorem w_key : keyL [wA, wB] = ([97, 0, 121, 0, 1, 98, 0, 120, 0, 1], 0) := by kernel_rfl
theorem w_parseR : parseR ⟨#[123, 32, 98, 61, 34, 120, 34, 44, 32, 97, 32, 61, 32, 34, 121, 34, 32, 125]⟩ = ([wB, wA], true, 18) := by kernel_rfl
theorem w_parse : parseF ⟨#[123, 32, 98, 61, 34, 120, 34, 44, 32, 97, 32, 61, 32, 34, 121, 34, 32, 125]⟩ = ([wA, wB], ⟨0, 0⟩) := by
  rw [parseF, w_parseR]
  simp only
  rw [if_pos ⟨trivial, by decide⟩, w_set2]
def wM : S84 := ⟨1, ⟨#[97]⟩, ⟨#[121]⟩, []⟩
theorem w_check : checkV wM = 0 := by kernel_rfl
theorem w_get : getL [wA, wB] ⟨#[97]⟩ = ⟨#[121]⟩ := get_of (l := [wA, wB]) (asc_nodup (isSetL_all' w_isSet).2.2) (x := wA) List.mem_cons_self _ rfl
theorem w_match : matchV wM [wA, wB] = true := by
  rw [matchV, w_check, show wM.f1 = ⟨#[97]⟩ from rfl, w_get, takesV, if_pos (show wM.f0 = 1 from rfl), nm_beq]
  decide
theorem w_match0 : matchV wM [] = false := by
  rw [matchV, w_check, show getL [] wM.f1 = ⟨#[]⟩ from rfl, takesV, if_pos (show wM.f0 = 1 from rfl), nm_beq]
  decide

set_option maxHeartbeats 4000000 in
set_option maxRecDepth 100000 in
theorem works_calls (w : World) (hE : WE w) : Calls Tryz.prog 26 #[] w fun e w' => e = .returned (.bool true) ∧ Below w.heap.size w w' := by
  have HE := Lib.hid hE
  clear hE
  obtain ⟨y, hy⟩ : ∃ y, y = [wB, wA, wC] := ⟨_, rfl⟩
  obtain ⟨z, hz⟩ : ∃ z, z = [wA, wB] := ⟨_, rfl⟩
  have HYL := Lib.hid (show y.length ≤ 3 by rw [hy]; decide)
  have HZL := Lib.hid (show z.length = 2 by rw [hz]; rfl)
  have HS := Lib.hid (show setL y = (z, 0) by rw [hy, hz]; exact w_set)
  have HT := Lib.hid (show textL z = (⟨#[123, 97, 61, 34, 121, 34, 44, 98, 61, 34, 120, 34, 125]⟩, 0) by rw [hz]; exact w_text)
  have HK := Lib.hid (show keyL z = ([97, 0, 121, 0, 1, 98, 0, 120, 0, 1], 0) by rw [hz]; exact w_key)
  have HP := Lib.hid (show parseF ⟨#[123, 32, 98, 61, 34, 120, 34, 44, 32, 97, 32, 61, 32, 34, 121, 34, 32, 125]⟩ = (z, ⟨0, 0⟩) by rw [hz]; exact w_parse)
  have HM := Lib.hid (show matchV wM z = true by rw [hz]; exact w_match)
  have HY := Lib.hid (show y = [⟨⟨#[98]⟩, ⟨#[120]⟩⟩, ⟨⟨#[97]⟩, ⟨#[121]⟩⟩, ⟨⟨#[99]⟩, ⟨#[]⟩⟩] from hy)
  clear hy hz
  go_enter Tryz.func26, Tryz.ntmps26
  go_wp2_with ((with_reducible refine gate_dst (N := 14) rfl ?_); refine Kd.R_lit k130 _ 130 ?hg (N := 14) ?hd (xs := ([(⟨(⟨#[98]⟩ : ByteArray), (⟨#[120]⟩ : ByteArray)⟩ : S130), (⟨(⟨#[97]⟩ : ByteArray), (⟨#[121]⟩ : ByteArray)⟩ : S130), (⟨(⟨#[99]⟩ : ByteArray), (⟨#[]⟩ : ByteArray)⟩ : S130)] : List (S130))) (inner := [.string (⟨#[98]⟩ : ByteArray), .string (⟨#[120]⟩ : ByteArray), .string (⟨#[97]⟩ : ByteArray), .string (⟨#[121]⟩ : ByteArray), .string (⟨#[99]⟩ : ByteArray), .string (⟨#[]⟩ : ByteArray)]) (ok := fun _ => True) (okp := fun _ => True) ?hr ?hp (fun _ hk => hk) trivial (Below.refl _ _) (Nat.le_refl _) (by simp) ?_; (case hd => rfl); (case hg => rfl); (case hr => first | (go_simp; done) | (go_simp; rfl)); (case hp => exact (Reps.c2 (show Kd.M k130 _ _ _ (⟨(⟨#[98]⟩ : ByteArray), (⟨#[120]⟩ : ByteArray)⟩ : S130) [.string (⟨#[98]⟩ : ByteArray), .string (⟨#[120]⟩ : ByteArray)] from (k130_mkM _ _ _ (⟨(⟨#[98]⟩ : ByteArray), (⟨#[120]⟩ : ByteArray)⟩ : S130) )) (Reps.c2 (show Kd.M k130 _ _ _ (⟨(⟨#[97]⟩ : ByteArray), (⟨#[121]⟩ : ByteArray)⟩ : S130) [.string (⟨#[97]⟩ : ByteArray), .string (⟨#[121]⟩ : ByteArray)] from (k130_mkM _ _ _ (⟨(⟨#[97]⟩ : ByteArray), (⟨#[121]⟩ : ByteArray)⟩ : S130) )) (Reps.c2 (show Kd.M k130 _ _ _ (⟨(⟨#[99]⟩ : ByteArray), (⟨#[]⟩ : ByteArray)⟩ : S130) [.string (⟨#[99]⟩ : ByteArray), .string (⟨#[]⟩ : ByteArray)] from (k130_mkM _ _ _ (⟨(⟨#[99]⟩ : ByteArray), (⟨#[]⟩ : ByteArray)⟩ : S130) )) (Reps.none _ _))))); intro v1 w1 ho1 hb1 hg1 hnew1; clear hg1 hnew1; rw [← HY.out] at ho1; obtain ⟨A1, c1, eo1⟩ := Kd.R_slice ho1; subst eo1; have HO1 := Lib.hid ho1; clear ho1)
  have C := set_calls A1 c1 y w1 (Kd.R_reads' HO1.out).2.2 (Kd.R_reads' HO1.out).2.1 (by have := HYL.out; omega)
  rw [HS.out] at C
  refine C.mono ?_
  clear C
  rintro e w2 ⟨v2, rfl, hR2, hb2⟩
  have hw2 := hb1.trans (hb2.mono hb1.size)
  obtain ⟨A2, c2, rfl⟩ := Kd.R_slice hR2
  simp only at hR2 ⊢
  have H2 := Lib.hid hR2
  clear hR2 hb1 hb2
  go_wp2_with fail
  have C := text_calls A2 c2 z w2 (Kd.R_reads' H2.out).2.2 (by have := HZL.out; omega) (HE.out.below hw2).tabs
  rw [HT.out] at C
  refine C.mono ?_
  clear C
  rintro e w3 ⟨rfl, hb3⟩
  have hw3 := hw2.trans (hb3.mono hw2.size)
  have C3 := Lib.hid (Kd.C_below (Kd.R_reads' H2.out).2.2 hb3)
  have HC2 := Lib.hid (Kd.R_reads' H2.out).2.1
  clear hb3 hw2 H2
  go_wp2_with fail
  have C := key_calls A2 c2 z w3 C3.out (by have := HZL.out; omega) (HE.out.below hw3).max
  rw [HK.out] at C
  refine C.mono ?_
  clear C
  rintro e w4 ⟨v4, rfl, hR4, hb4⟩
  have hw4 := hw3.trans (hb4.mono hw3.size)
  have C4 := Lib.hid (Kd.C_below C3.out hb4)
  have H4 := Lib.hid hR4
  clear hb4 hw3 C3 hR4
  go_wp2_with fail
  have hx5 := heap_alloc_new w4 (.cells #[.int .i64 1, .string ⟨#[97]⟩, .string ⟨#[121]⟩, .slice none 0 0] 84)
  have hb5 := (Below.refl w4.heap.size w4).alloc (Nat.le_refl _) (.cells #[.int .i64 1, .string ⟨#[97]⟩, .string ⟨#[121]⟩, .slice none 0 0] 84)
  have C := parse_calls ⟨#[123, 32, 98, 61, 34, 120, 34, 44, 32, 97, 32, 61, 32, 34, 121, 34, 32, 125]⟩ (w4.alloc (.cells #[.int .i64 1, .string ⟨#[97]⟩, .string ⟨#[121]⟩, .slice none 0 0] 84)) (by decide)
  rw [HP.out] at C
  refine C.mono ?_
  clear C
  rintro e w6 ⟨v6, rfl, hR6, hb6⟩
  have hx6 := (hb6.block w4.heap.size (Array.getElem?_eq_some_iff.1 hx5).1).trans hx5
  have hb46 := hb5.trans (hb6.mono hb5.size)
  have hw6 := hw4.trans (hb46.mono hw4.size)
  have C6 := Lib.hid (Kd.C_below C4.out hb46)
  have K6 := Lib.hid (pw_own_below H4.out hb46)
  obtain ⟨A6, c6, rfl⟩ := Kd.R_slice hR6
  have H6 := Lib.hid hR6
  have HX6 := Lib.hid hx6
  clear hb5 hb6 hx5 hx6 hw4 hb46 C4 H4 hR6
  generalize w4.heap.size = g4 at *
  go_wp2_with fail
  have hx7 := heap_alloc_new w6 (.cells #[.int .i64 0, .int .i64 0] 61)
  have hb7 := (Below.refl w6.heap.size w6).alloc (Nat.le_refl _) (.cells #[.int .i64 0, .int .i64 0] 61)
  have hw7 := hw6.trans (hb7.mono hw6.size)
  have C7 := Lib.hid (Kd.C_below C6.out hb7)
  have K7 := Lib.hid (pw_own_below K6.out hb7)
  have D7 := Lib.hid (Kd.C_below (Kd.R_reads' H6.out).2.2 hb7)
  have HC6 := Lib.hid (Kd.R_reads' H6.out).2.1
  have HX7 := Lib.hid ((hb7.block g4 (Array.getElem?_eq_some_iff.1 HX6.out).1).trans HX6.out)
  generalize hg : w6.heap.size = g6 at *
  generalize hw : w6.alloc (.cells #[.int .i64 0, .int .i64 0] 61) = w7 at *
  have HY7 := Lib.hid hx7
  clear hg hw hw6 hb7 hx7 C6 K6 H6 HX6
  have hcv : (convert 93 9 v4).run Tryz.prog w7 = .ok (.string (strOfNums (ints [97, 0, 121, 0, 1, 98, 0, 120, 0, 1]))) w7 := own_string Tryz.underlying93 Tryz.underlying5 Tryz.underlying9 K7.out
  have hcz : (strOfNums (ints [97, 0, 121, 0, 1, 98, 0, 120, 0, 1])).toList = ([97, 0, 121, 0, 1, 98, 0, 120, 0, 1] : List UInt8) := by rw [ByteArray.toList_eq]; kernel_rfl
  generalize strOfNums (ints [97, 0, 121, 0, 1, 98, 0, 120, 0, 1]) = ks at hcv hcz
  have hzl : ((z.length : Int) == 2) = true := by rw [HZL.out]; rfl
  have hc70 := cell_at HX7.out 0
  have hc71 := cell_at HX7.out 1
  have hc72 := cell_at HX7.out 2
  have hc73 := cell_at HX7.out 3
  go_wp2_with (first | (go_at_call 14; (with_reducible refine (num_calls _ _).mono ?_); rintro e wx ⟨rfl, hwx⟩; subst wx))
  have N0 : ∀ W : World, Kd.C Kd.string W none wM.f3.length wM.f3 := fun W => ⟨rfl, by decide, fun h => absurd h (by decide)⟩
  have N1 : ∀ W : World, Kd.C k130 W none ([] : List S130).length [] := fun W => ⟨rfl, by decide, fun h => absurd h (by decide)⟩
  have C := match_calls wM none 0 A2 c2 z w7 (N0 _) (by decide) C7.out HC2.out (by have := HZL.out; omega)
  rw [HM.out] at C
  refine C.mono ?_
  clear C
  rintro e w8 ⟨rfl, hb8⟩
  have hw8 := hw7.trans (hb8.mono hw7.size)
  have HX8 := Lib.hid ((hb8.block g4 (Array.getElem?_eq_some_iff.1 HX7.out).1).trans HX7.out)
  have HY8 := Lib.hid ((hb8.block g6 (Array.getElem?_eq_some_iff.1 HY7.out).1).trans HY7.out)
  have C8 := Lib.hid (Kd.C_below C7.out hb8)
  have D8 := Lib.hid (Kd.C_below D7.out hb8)
  clear hw7 hb8 HX7 HY7 C7 D7 K7 hcv hc70 hc71 hc72 hc73
  have hc80 := cell_at HX8.out 0
  have hc81 := cell_at HX8.out 1
  have hc82 := cell_at HX8.out 2
  have hc83 := cell_at HX8.out 3
  go_wp2_with fail
  have C := match_calls wM none 0 none 0 [] w8 (N0 _) (by decide) (N1 _) (Nat.le_refl _) (by decide)
  rw [w_match0] at C
  refine C.mono ?_
  clear C
  rintro e w9 ⟨rfl, hb9⟩
  have hw9 := hw8.trans (hb9.mono hw8.size)
  have HY9 := Lib.hid ((hb9.block g6 (Array.getElem?_eq_some_iff.1 HY8.out).1).trans HY8.out)
  have C9 := Lib.hid (Kd.C_below C8.out hb9)
  have D9 := Lib.hid (Kd.C_below D8.out hb9)
  clear hw8 hb9 HX8 HY8 C8 D8 hc80 hc81 hc82 hc83
  have hc90 := cell_at HY9.out 0
  have hc91 := cell_at HY9.out 1
  go_wp2_with fail
  have C := equal_calls A2 c2 z A6 c6 z w9 C9.out HC2.out D9.out HC6.out (by have := HZL.out; omega)
  rw [eqLB_self] at C
  refine C.mono ?_
  clear C
  rintro e wa ⟨rfl, hba⟩
  go_wp2
  go_ret
  exact ⟨rfl, hw9.trans (hba.mono hw9.size)⟩
end
end Go.Proofs.YtkanfffbdegfoaaGreatDoor.PD
