/- The contract of the reader's label. No condition beyond what it states. The contract of label.Parse. No condition beyond what it states. -/
import Derived.Test.YtkanfffbdegfoaaGreatDoorKE
import Derived.Test.YtkanfffbdegfoaaGreatDoorKB
namespace Go.Proofs.YtkanfffbdegfoaaGreatDoor.PD
set_option linter.unusedVariables false
set_option linter.unusedSimpArgs false
section
open Go.RowKit Go.Proofs.YtkanfffbdegfoaaGreatDoorW.PrintWords Go.Proofs.YtkanfffbdegfoaaGreatDoorW.PrintLast Go.Proofs.YtkanfffbdegfoaaGreatDoorW.PrintMore

/-- Behind the bytes that go on with a name. -/
def furB (s : ByteArray) : Nat → Nat → Nat
  | 0, i => i
  | b + 1, i => if h : i < s.size then (if furtherB s[i].toNat = true then furB s b (i + 1) else i) else i
def furF (s : ByteArray) (i : Nat) : Nat := furB s (s.size - i) i
theorem furF_go (s : ByteArray) (i : Nat) (h : i < s.size) (h2 : furtherB s[i].toNat = true) : furF s i = furF s (i + 1) := by
  have e : s.size - i = (s.size - (i + 1)) + 1 := by omega
  rw [furF, e, furB, dif_pos h, if_pos h2, furF]
theorem furF_stop (s : ByteArray) (i : Nat) (h : i < s.size) (h2 : furtherB s[i].toNat = false) : furF s i = i := by
  have e : s.size - i = (s.size - (i + 1)) + 1 := by omega
  rw [furF, e, furB, dif_pos h, if_neg (by rw [h2]; decide)]
theorem furF_end (s : ByteArray) (i : Nat) (h : ¬ i < s.size) : furF s i = i := by
  have e : s.size - i = 0 := by omega
  rw [furF, e, furB]
theorem furF_le (s : ByteArray) (i : Nat) (h : i ≤ s.size) : i ≤ furF s i ∧ furF s i ≤ s.size := by
  by_cases hi : i < s.size
  · cases h32 : furtherB s[i].toNat
    · rw [furF_stop s i hi h32]
      omega
    · have := furF_le s (i + 1) hi
      rw [furF_go s i hi h32]
      omega
  · rw [furF_end s i hi]
    omega
termination_by s.size - i
/-- Where a name ends. -/
def nameF (s : ByteArray) (i : Nat) : Nat := if h : i < s.size then (if firstB s[i].toNat = true then furF s i else i) else i
theorem nameF_le (s : ByteArray) (i : Nat) (h : i ≤ s.size) : i ≤ nameF s i ∧ nameF s i ≤ s.size := by
  have := furF_le s i h
  unfold nameF
  split
  · split
    · exact this
    · omega
  · omega
def labelF (s : ByteArray) (i : Nat) : S130 × Bool × Nat :=
  if nameF s i = i then (⟨s.extract i (nameF s i), ⟨#[]⟩⟩, false, nameF s i)
  else if (oneF s 61 (nameF s i)).1 = true then
    (⟨s.extract i (nameF s i), (unqAll (s.extract (oneF s 61 (nameF s i)).2 s.size)).1⟩, (unqAll (s.extract (oneF s 61 (nameF s i)).2 s.size)).2.2 == 0, (oneF s 61 (nameF s i)).2 + (unqAll (s.extract (oneF s 61 (nameF s i)).2 s.size)).2.1.toNat)
  else (⟨s.extract i (nameF s i), ⟨#[]⟩⟩, false, (oneF s 61 (nameF s i)).2)

theorem grown_below {w w1 w2 : World} {row : Option Nat} (h1 : w.grownBy w1 row) (h2 : Below w1.heap.size w1 w2) : w.grownBy w2 row := grown_trans h1 (grown_of_below h2 _)
theorem grown_new {w w1 : World} {row : Option Nat} (h1 : w.grownBy w1 row) {g : Nat} (hg : w.heap.size ≤ g) (j : Nat) (u : Value) : w.grownBy (w1.setCell ⟨g, j, none⟩ u) row :=
  ⟨h1.os, h1.tape, h1.output, by simpa [World.setCell] using h1.size, fun k hk hne => (Below.heap_setCell w1 ⟨g, j, none⟩ u k (by show k ≠ g; omega)).trans (h1.block k hk hne)⟩

theorem unq_le (s : ByteArray) : ∀ (b i : Nat) (acc l : List UInt8) (n : Nat), unq s b i acc = some (l, n) → n ≤ s.size := by
  intro b
  induction b with
  | zero => intro i acc l n h; cases h
  | succ b ih =>
    intro i acc l n h
    rw [unq] at h
    repeat' split at h
    all_goals first
      | exact ih _ _ _ _ h
      | (cases h; omega)
      | cases h
/-- How many bytes Unquote tells, and that its error is one of two. -/
theorem unqAll_kinds (s : ByteArray) : ∃ (v : ByteArray) (m : Nat) (e : Int), unqAll s = (v, (m : Int), e) ∧ m ≤ s.size := by
  unfold unqAll
  split
  · split
    · rename_i l n h
      exact ⟨_, n, 0, rfl, unq_le s _ _ _ _ _ h⟩
    · exact ⟨_, 0, 134, rfl, Nat.zero_le _⟩
  · exact ⟨_, 0, 134, rfl, Nat.zero_le _⟩
theorem grown_drew {w w1 : World} {row : Option Nat} (h : w.grownBy w1 row) : w.grownBy w1.drew row := ⟨h.os, h.tape, h.output, h.size, h.block⟩
theorem set2 {w : World} {g : Nat} {a b : Value} {t : TypeId} (h : w.heap[g]? = some (.cells #[a, b] t (0, 0))) (x y : Value) : ((w.setCell ⟨g, 0, none⟩ x).setCell ⟨g, 1, none⟩ y).drew.heap[g]? = some (.cells #[x, y] t (0, 0)) := by
  show ((w.setCell ⟨g, 0, none⟩ x).setCell ⟨g, 1, none⟩ y).heap[g]? = _
  simp [World.setCell, Array.getElem?_modify, h]
theorem frz_at {w : World} {g : Nat} {cs : Array Value} {t : TypeId} (h : w.heap[g]? = some (.cells cs t (0, 0))) (j : Nat) : w.frozen? ⟨g, j, none⟩ = false := by simp [World.frozen?, h]
set_option maxHeartbeats 4000000 in
set_option maxRecDepth 100000 in
theorem label_calls (b : Nat) (s : ByteArray) (i : Nat) (w : World) (hr : Rd b s i w) (hi : i ≤ s.size) (hs : s.size ≤ 1099511627776) :
    Calls Tryz.prog 66 #[.pointer (some ⟨b, 0, none⟩)] w fun e w' => e = .returned (.tuple #[.agg #[.string (labelF s i).1.f0, .string (labelF s i).1.f1], .bool (labelF s i).2.1]) ∧ Rd b s (labelF s i).2.2 w' ∧ w.grownBy w' (some b) := by
  generalize hres : labelF s i = res
  have HS := Lib.hid hres
  clear hres
  have hbl := hr.lt
  have HR := Lib.hid (hr.below ((Below.refl _ w).alloc (Nat.le_refl _) (.cells #[.string ⟨#[]⟩, .string ⟨#[]⟩] 130)))
  have HG := Lib.hid (show w.grownBy (w.alloc (.cells #[.string ⟨#[]⟩, .string ⟨#[]⟩] 130)) (some b) from World.grownBy_alloc _ _ _)
  have HX := Lib.hid (show (w.alloc (.cells #[.string ⟨#[]⟩, .string ⟨#[]⟩] 130)).heap[w.heap.size]? = some (.cells #[.string ⟨#[]⟩, .string ⟨#[]⟩] 130 (0, 0)) from heap_alloc_new _ _)
  have hc0 := HR.out.c0
  have hc1 := HR.out.c1
  clear hr
  by_cases hlt : i < s.size
  · have hltz : (i : Int) < (s.size : Int) := by omega
    have hkz : (0 : Int) ≤ (i : Int) := by omega
    cases hf : firstB s[i].toNat
    · have HJ := Lib.hid (show nameF s i = i by rw [nameF, dif_pos hlt, if_neg (by rw [hf]; decide)])
      have F1 := Lib.hid (first_calls s[i].toNat)
      rw [hf] at F1
      clear hf
      go_enter Tryz.func66, Tryz.ntmps66
      go_wp2_with fail
      (with_reducible refine (F1.out _).mono ?_)
      rintro e w1 ⟨rfl, rfl⟩
      have HR5 := HR
      have HG5 := HG
      have HX5 := HX
      clear hc0 hc1 HR HG HX
      generalize w.alloc (.cells #[.string ⟨#[]⟩, .string ⟨#[]⟩] 130) = wz at HR5 HG5 HX5 ⊢
      go_upto_region 5 with (fail)
      have hc0 := HR5.out.c0
      have hc1 := HR5.out.c1
      have his : (i : Int) ≤ (s.size : Int) := by omega
      have hba5 := fun o => (Below.refl wz.heap.size wz).alloc (Nat.le_refl _) o
      have hq0 : ∀ o, (wz.alloc o).cell? ⟨w.heap.size, 0, none⟩ = some (.string ⟨#[]⟩) := fun o => pw_cell_below (hba5 o) (cell_at HX5.out 0)
      have hq1 : ∀ o, (wz.alloc o).cell? ⟨w.heap.size, 1, none⟩ = some (.string ⟨#[]⟩) := fun o => pw_cell_below (hba5 o) (cell_at HX5.out 1)
      have hqf0 : ∀ o, (wz.alloc o).frozen? ⟨w.heap.size, 0, none⟩ = false := fun o => frz_at (((hba5 o).block _ (Array.getElem?_eq_some_iff.1 HX5.out).1).trans HX5.out) 0
      have hqf1 : ∀ o, (wz.alloc o).frozen? ⟨w.heap.size, 1, none⟩ = false := fun o => frz_at (((hba5 o).block _ (Array.getElem?_eq_some_iff.1 HX5.out).1).trans HX5.out) 1
      have HBA := Lib.hid hba5
      clear hba5
      go_region_held3 (fun w' => w'.cell? ⟨b, 0, none⟩ = some (.string s) ∧ w'.cell? ⟨b, 1, none⟩ = some (.int .i64 i))
        (first | exact ⟨hc0, hc1⟩ | go_keep)
        (first | fail)
      go_wp2_with fail
      have hb5 := HBA.out (.cells #[.string ByteArray.empty, .string ⟨#[]⟩] 130)
      have hxx := (hb5.block _ (Array.getElem?_eq_some_iff.1 HX5.out).1).trans HX5.out
      have hrr := HR5.out.below hb5
      have hgg := grown_below HG5.out hb5
      refine bodyPost_ret (results_ct rfl _ _ w.heap.size 130 #[.string ByteArray.empty, .string ⟨#[]⟩] (0, 0) _ rfl (set2 hxx _ _) Tryz.underlying130 rfl rfl) rfl ?_
      have he : res = (⟨ByteArray.empty, ⟨#[]⟩⟩, false, i) := by
        rw [← HS.out, labelF, if_pos HJ.out, HJ.out]
        simp
      rw [he]
      refine ⟨rfl, ?_, grown_drew (grown_new (grown_new hgg (Nat.le_refl _) _ _) (Nat.le_refl _) _ _)⟩
      show (World.setCell _ _ _).heap[b]? = _
      rw [Below.heap_setCell _ _ _ _ (by show b ≠ w.heap.size; omega), Below.heap_setCell _ _ _ _ (by show b ≠ w.heap.size; omega)]
      exact hrr
    · have HF := Lib.hid hf
      have HJ := Lib.hid (show nameF s i = furF s i by rw [nameF, dif_pos hlt, if_pos hf])
      have F1 := Lib.hid (first_calls s[i].toNat)
      rw [hf] at F1
      clear hf
      go_enter Tryz.func66, Tryz.ntmps66
      go_wp2_with fail
      (with_reducible refine (F1.out _).mono ?_)
      rintro e w1 ⟨rfl, rfl⟩
      go_wp2_with fail
      clear hc0 hc1
      go_loopw [29] (fun _ wr => ∃ k : Nat, k ≤ s.size ∧ i ≤ k ∧ Hid (furF s k = furF s i) ∧ Hid (Rd b s k wr) ∧ Hid (w.grownBy wr (some b)) ∧ Hid (wr.heap[w.heap.size]? = some (.cells #[.string ⟨#[]⟩, .string ⟨#[]⟩] 130 (0, 0)))) (fun _ wr => s.size - atOf wr b)
      case atStart => exact ⟨i, hi, Nat.le_refl _, Lib.hid rfl, HR, HG, HX⟩
      case round =>
        obtain ⟨k, hk, hik, hsk, hrd, hg, hx⟩ := hrel
        have hd0 := fun p : BelowAt wr.heap.size wr => (hrd.out.below p.h).c0
        have hd1 := fun p : BelowAt wr.heap.size wr => (hrd.out.below p.h).c1
        by_cases hlt2 : k < s.size
        · have hltz2 : (k : Int) < (s.size : Int) := by omega
          have hkz2 : (0 : Int) ≤ (k : Int) := by omega
          have hdk : decide ((k : Int) < (s.size : Int)) = true := decide_eq_true hltz2
          have hdk2 : decide (k < s.size) = true := decide_eq_true hlt2
          have F2 := Lib.hid (further_calls s[k].toNat)
          cases hfu : furtherB s[k].toNat
          · rw [hfu] at F2
            have HN := Lib.hid (furF_stop s k hlt2 hfu)
            clear hfu
            go_upto_region 3 with (fail)
            refine wp_region_quiet_below wr.heap.size wr (by kernel_rfl) (by kernel_rfl) (Below.refl _ _) ?_
            repeat go_big_quiet_step (first | (go_at_call 111; exact calls_below_same (F2.out _)))
            refine wpQuiet_nil ?_
            intro wz hwz
            have hbq : Below wr.heap.size wr wz := by
              obtain ⟨p, rfl⟩ := hwz
              exact p.h
            have HR5 := Lib.hid (hrd.out.below hbq)
            have HG5 := Lib.hid (grown_below hg.out hbq)
            have HX5 := Lib.hid ((hbq.block _ (Array.getElem?_eq_some_iff.1 hx.out).1).trans hx.out)
            clear hwz hd0 hd1 hbq
            have hik' : i < k := by
              have h1 := furF_go s i hlt (by rw [furtherB, HF.out]; rfl)
              have h2 := (furF_le s (i + 1) hlt).1
              have h3 := hsk.out
              have h4 := HN.out
              omega
            go_upto_region 5 with (fail)
            have hc0 := HR5.out.c0
            have hc1 := HR5.out.c1
            have his : (k : Int) ≤ (s.size : Int) := by omega
            have hik2 : (i : Int) ≤ (k : Int) := by omega
            have hiz : (0 : Int) ≤ (i : Int) := by omega
            have hnz : (( s.extract i k).toList == []) = false := isEmpty_no _ (by rw [ByteArray.size_extract]; omega)
            go_region_held3 (fun w' => w'.cell? ⟨b, 0, none⟩ = some (.string s) ∧ w'.cell? ⟨b, 1, none⟩ = some (.int .i64 k))
              (first | exact ⟨hc0, hc1⟩ | go_keep)
              (first | fail)
            generalize hnm : s.extract i k = nm at *
            have hb5 := (Below.refl wz.heap.size wz).alloc (Nat.le_refl _) (.cells #[.string nm, .string ⟨#[]⟩] 130)
            have hx5 := (hb5.block _ (Array.getElem?_eq_some_iff.1 HX5.out).1).trans HX5.out
            have hr5 := HR5.out.below hb5
            have hg5 := grown_below HG5.out hb5
            have hy5 : (wz.alloc (.cells #[.string nm, .string ⟨#[]⟩] 130)).heap[wz.heap.size]? = some (.cells #[.string nm, .string ⟨#[]⟩] 130 (0, 0)) := heap_alloc_new _ _
            have hwz : w.heap.size ≤ wz.heap.size := HG5.out.size
            have hxlt := (Array.getElem?_eq_some_iff.1 HX5.out).1
            have hblt := HR5.out.lt
            generalize hgx : wz.heap.size = gx at *
            generalize wz.alloc (.cells #[.string nm, .string ⟨#[]⟩] 130) = wy at *
            have hcy0 := cell_at hy5 0
            have hcy1 := cell_at hy5 1
            clear hc0 hc1
            have hble : b ≠ gx := by omega
            have hbl2 : b ≠ w.heap.size := by omega
            have hgl2 : gx ≠ w.heap.size := by omega
            have O1 := Lib.hid (show ∀ W : World, Rd b s k W → Calls Tryz.prog 65 #[.pointer (some ⟨b, 0, none⟩), .int .u8 61] W fun e w' => e = .returned (.bool (oneF s 61 k).1) ∧ Rd b s (oneF s 61 k).2 w' ∧ W.grownBy w' (some b) from fun W h => one_calls b s 61 k W h (by omega) hs)
            have hol := oneF_le s 61 k (by omega)
            have HY5 := Lib.hid hy5
            have HX5b := Lib.hid hx5
            have HR5b := Lib.hid hr5
            have HG5b := Lib.hid hg5
            have HLT := Lib.hid (And.intro (Array.getElem?_eq_some_iff.1 hy5).1 (Array.getElem?_eq_some_iff.1 hx5).1)
            clear hy5 hx5 hr5 hg5 HR5 HG5 HX5
            cases ho : (oneF s 61 k).1
            · have HO := Lib.hid ho
              rw [ho] at O1
              clear ho
              go_wp2_with fail
              have hr5d : Rd b s k wy.drew := HR5b.out
              (with_reducible refine (O1.out wy.drew hr5d).mono ?_)
              rintro e w6 ⟨rfl, hr6, hg6⟩
              have hy6 := (hg6.block gx HLT.out.1 (fun e => hble (Option.some.inj e).symm)).trans HY5.out
              have hx6 := (hg6.block w.heap.size HLT.out.2 (fun e => hbl2 (Option.some.inj e).symm)).trans HX5b.out
              have hz0 := cell_at hy6 0
              have hz1 := cell_at hy6 1
              have hq0 := cell_at hx6 0
              have hq1 := cell_at hx6 1
              have hqf0 := frz_at hx6 0
              have hqf1 := frz_at hx6 1
              go_wp2_with fail
              have hgg := grown_trans (grown_drew HG5b.out) hg6
              refine bodyPost_ret (results_ct rfl _ _ w.heap.size 130 #[.string nm, .string ⟨#[]⟩] (0, 0) _ rfl (set2 hx6 _ _) Tryz.underlying130 rfl rfl) rfl ?_
              have he : res = (⟨nm, ⟨#[]⟩⟩, false, (oneF s 61 k).2) := by
                have hjk : nameF s i = k := by
                  have h3 := hsk.out
                  have h4 := HN.out
                  rw [HJ.out]
                  omega
                rw [← HS.out, labelF, hjk, if_neg (by omega), HO.out, if_neg (by decide), hnm]
              rw [he]
              refine ⟨rfl, ?_, grown_new (grown_new hgg (Nat.le_refl _) _ _) (Nat.le_refl _) _ _⟩
              show (World.setCell _ _ _).heap[b]? = _
              rw [Below.heap_setCell _ _ _ _ (by show b ≠ w.heap.size; exact hbl2), Below.heap_setCell _ _ _ _ (by show b ≠ w.heap.size; exact hbl2)]
              exact hr6
            · have HO := Lib.hid ho
              rw [ho] at O1
              clear ho
              obtain ⟨v, m, e0, hu, hm⟩ := unqAll_kinds (s.extract (oneF s 61 k).2 s.size)
              have hus : (s.extract (oneF s 61 k).2 s.size).size ≤ s.size - (oneF s 61 k).2 := by rw [ByteArray.size_extract]; omega
              have U1 := Lib.hid (fun W => unquote_any (s.extract (oneF s 61 k).2 s.size) W (by omega))
              have hl : labelF s i = (⟨nm, (unqAll (s.extract (oneF s 61 k).2 s.size)).1⟩, (unqAll (s.extract (oneF s 61 k).2 s.size)).2.2 == 0, (oneF s 61 k).2 + (unqAll (s.extract (oneF s 61 k).2 s.size)).2.1.toNat) := by
                have hjk : nameF s i = k := by
                  have h3 := hsk.out
                  have h4 := HN.out
                  rw [HJ.out]
                  omega
                rw [labelF, hjk, if_neg (by omega), HO.out, if_pos rfl, hnm]
              have HL := Lib.hid hl
              clear hl
              rw [hu] at HL
              have U1 := Lib.hid (show ∀ W, Calls Tryz.prog 10 #[.string (s.extract (oneF s 61 k).2 s.size)] W fun e w' => e = .returned (.tuple #[.string v, .int .i64 (m : Int), .int .i64 e0]) ∧ Below W.heap.size W w' from by
                have := U1.out
                rw [hu] at this
                exact this)
              clear hu
              generalize hj2 : (oneF s 61 k).2 = j at *
              go_wp2_with fail
              have hr5d : Rd b s k wy.drew := HR5b.out
              (with_reducible refine (O1.out wy.drew hr5d).mono ?_)
              rintro e w6 ⟨rfl, hr6, hg6⟩
              have hy6 := (hg6.block gx HLT.out.1 (fun e => hble (Option.some.inj e).symm)).trans HY5.out
              have hx6 := (hg6.block w.heap.size HLT.out.2 (fun e => hbl2 (Option.some.inj e).symm)).trans HX5b.out
              have hz0 := cell_at hy6 0
              have hz1 := cell_at hy6 1
              have hq0 := cell_at hx6 0
              have hq1 := cell_at hx6 1
              have hqf0 := frz_at hx6 0
              have hqf1 := frz_at hx6 1
              have hg6' := grown_trans (grown_drew HG5b.out) hg6
              have hgb := (Array.getElem?_eq_some_iff.1 hy6).1
              have hxb := (Array.getElem?_eq_some_iff.1 hx6).1
              clear hz0 hz1 hq0 hq1 hqf0 hqf1
              go_upto_region 8 with (fail)
              have hd0 := fun p : BelowAt w6.heap.size w6 => (hr6.below p.h).c0
              have hd1 := fun p : BelowAt w6.heap.size w6 => (hr6.below p.h).c1
              have hjz : (0 : Int) ≤ (j : Int) := by omega
              have hjs : (j : Int) ≤ (s.size : Int) := by omega
              refine wp_region_quiet_below w6.heap.size w6 (by kernel_rfl) (by kernel_rfl) (Below.refl _ _) ?_
              repeat go_big_quiet_step (first | (go_at_call 10; exact calls_below_of (Nat.le_refl _) (U1.out _)))
              refine wpQuiet_nil ?_
              intro w8 hw8
              have hb8 : Below w6.heap.size w6 w8 := by
                obtain ⟨p, rfl⟩ := hw8
                exact p.h
              clear hw8 hd0 hd1
              have hr8 := hr6.below hb8
              have hy8 := (hb8.block gx hgb).trans hy6
              have hx8 := (hb8.block _ hxb).trans hx6
              have hg8 := grown_below hg6' hb8
              have hz0 := cell_at hy8 0
              have hz1 := cell_at hy8 1
              have hzf1 := frz_at hy8 1
              have hq0 := cell_at hx8 0
              have hq1 := cell_at hx8 1
              have hqf0 := frz_at hx8 0
              have hqf1 := frz_at hx8 1
              have hr1 := hr8.c1
              have hrf := hr8.fr 1
              have hwr : IntKind.i64.wrap ((j : Int) + (m : Int)) = ((j + m : Nat) : Int) := by rw [IntKind.wrap_i64]; omega
              go_wp2_with fail
              have hx9 : ((w8.setCell ⟨gx, 1, none⟩ (.string v)).setCell ⟨b, 1, none⟩ (.int .i64 ((j : Int) + (m : Int)))).heap[w.heap.size]? = some (.cells #[.string ⟨#[]⟩, .string ⟨#[]⟩] 130 (0, 0)) := by
                rw [Below.heap_setCell _ _ _ _ (by show w.heap.size ≠ b; exact hbl2.symm), Below.heap_setCell _ _ _ _ (by show w.heap.size ≠ gx; exact hgl2.symm)]
                exact hx8
              have hr9 : Rd b s (j + m) ((w8.setCell ⟨gx, 1, none⟩ (.string v)).setCell ⟨b, 1, none⟩ (.int .i64 ((j : Int) + (m : Int)))) := by
                have h : Rd b s j (w8.setCell ⟨gx, 1, none⟩ (.string v)) := (Below.heap_setCell _ _ _ _ (by show b ≠ gx; exact hble)).trans hr8
                exact h.set (j + m)
              have hg9 : w.grownBy ((w8.setCell ⟨gx, 1, none⟩ (.string v)).setCell ⟨b, 1, none⟩ (.int .i64 ((j : Int) + (m : Int)))) (some b) := grown_trans (grown_new hg8 hwz _ _) (grown_set _ _ _ _)
              refine bodyPost_ret (results_ct rfl _ _ w.heap.size 130 #[.string nm, .string v] (0, 0) _ rfl (set2 hx9 _ _) Tryz.underlying130 rfl rfl) rfl ?_
              have he : res = (⟨nm, v⟩, e0 == 0, j + m) := by
                rw [← HS.out, HL.out]
                simp
              rw [he]
              refine ⟨rfl, ?_, grown_new (grown_new hg9 (Nat.le_refl _) _ _) (Nat.le_refl _) _ _⟩
              show (World.setCell _ _ _).heap[b]? = _
              rw [Below.heap_setCell _ _ _ _ (by show b ≠ w.heap.size; exact hbl2), Below.heap_setCell _ _ _ _ (by show b ≠ w.heap.size; exact hbl2)]
              exact hr9
          · rw [hfu] at F2
            have HN := Lib.hid (furF_go s k hlt2 hfu)
            clear hfu
            go_upto_region 3 with (fail)
            refine wp_region_quiet_below wr.heap.size wr (by kernel_rfl) (by kernel_rfl) (Below.refl _ _) ?_
            repeat go_big_quiet_step (first | (go_at_call 111; exact calls_below_same (F2.out _)))
            refine wpQuiet_nil ?_
            intro wz hwz
            have hbq : Below wr.heap.size wr wz := by
              obtain ⟨p, rfl⟩ := hwz
              exact p.h
            clear hwz hd0 hd1
            have hrq := hrd.out.below hbq
            have hq1 := hrq.c1
            have hqf := hrq.fr 1
            have hrs := Lib.hid (hrq.set (k + 1))
            have hgs := Lib.hid (grown_trans (grown_below hg.out hbq) (grown_set wz b 1 (.int .i64 ((k + 1 : Nat) : Int))))
            have hxs := Lib.hid (show (wz.setCell ⟨b, 1, none⟩ (.int .i64 ((k + 1 : Nat) : Int))).heap[w.heap.size]? = some (.cells #[.string ⟨#[]⟩, .string ⟨#[]⟩] 130 (0, 0)) from by
              rw [Below.heap_setCell _ _ _ _ (by show w.heap.size ≠ b; omega), hbq.block _ (Array.getElem?_eq_some_iff.1 hx.out).1]
              exact hx.out)
            clear hrq
            go_wp2_with fail
            refine ⟨⟨k + 1, by omega, by omega, Lib.hid (HN.out.symm.trans hsk.out), hrs, hgs, hxs⟩, ?_⟩
            have e1 := hrs.out.pos
            have e2 := hrd.out.pos
            show s.size - atOf (wz.setCell ⟨b, 1, none⟩ (.int .i64 ((k + 1 : Nat) : Int))) b < _
            omega
        · have hdk : decide ((k : Int) < (s.size : Int)) = false := decide_eq_false (by omega)
          have hdk2 : decide (k < s.size) = false := decide_eq_false (by omega)
          have HN := Lib.hid (furF_end s k hlt2)
          go_upto_region 3 with (fail)
          refine wp_region_quiet_below wr.heap.size wr (by kernel_rfl) (by kernel_rfl) (Below.refl _ _) ?_
          repeat go_big_quiet_step (fail)
          refine wpQuiet_nil ?_
          intro wz hwz
          have hbq : Below wr.heap.size wr wz := by
            obtain ⟨p, rfl⟩ := hwz
            exact p.h
          have HR5 := Lib.hid (hrd.out.below hbq)
          have HG5 := Lib.hid (grown_below hg.out hbq)
          have HX5 := Lib.hid ((hbq.block _ (Array.getElem?_eq_some_iff.1 hx.out).1).trans hx.out)
          clear hwz hd0 hd1 hbq
          have hik' : i < k := by omega
          go_upto_region 5 with (fail)
          have hc0 := HR5.out.c0
          have hc1 := HR5.out.c1
          have his : (k : Int) ≤ (s.size : Int) := by omega
          have hik2 : (i : Int) ≤ (k : Int) := by omega
          have hiz : (0 : Int) ≤ (i : Int) := by omega
          have hnz : (( s.extract i k).toList == []) = false := isEmpty_no _ (by rw [ByteArray.size_extract]; omega)
          go_region_held3 (fun w' => w'.cell? ⟨b, 0, none⟩ = some (.string s) ∧ w'.cell? ⟨b, 1, none⟩ = some (.int .i64 k))
            (first | exact ⟨hc0, hc1⟩ | go_keep)
            (first | fail)
          generalize hnm : s.extract i k = nm at *
          have hb5 := (Below.refl wz.heap.size wz).alloc (Nat.le_refl _) (.cells #[.string nm, .string ⟨#[]⟩] 130)
          have hx5 := (hb5.block _ (Array.getElem?_eq_some_iff.1 HX5.out).1).trans HX5.out
          have hr5 := HR5.out.below hb5
          have hg5 := grown_below HG5.out hb5
          have hy5 : (wz.alloc (.cells #[.string nm, .string ⟨#[]⟩] 130)).heap[wz.heap.size]? = some (.cells #[.string nm, .string ⟨#[]⟩] 130 (0, 0)) := heap_alloc_new _ _
          have hwz : w.heap.size ≤ wz.heap.size := HG5.out.size
          have hxlt := (Array.getElem?_eq_some_iff.1 HX5.out).1
          have hblt := HR5.out.lt
          generalize hgx : wz.heap.size = gx at *
          generalize wz.alloc (.cells #[.string nm, .string ⟨#[]⟩] 130) = wy at *
          have hcy0 := cell_at hy5 0
          have hcy1 := cell_at hy5 1
          clear hc0 hc1
          have hble : b ≠ gx := by omega
          have hbl2 : b ≠ w.heap.size := by omega
          have hgl2 : gx ≠ w.heap.size := by omega
          have O1 := Lib.hid (show ∀ W : World, Rd b s k W → Calls Tryz.prog 65 #[.pointer (some ⟨b, 0, none⟩), .int .u8 61] W fun e w' => e = .returned (.bool (oneF s 61 k).1) ∧ Rd b s (oneF s 61 k).2 w' ∧ W.grownBy w' (some b) from fun W h => one_calls b s 61 k W h (by omega) hs)
          have hol := oneF_le s 61 k (by omega)
          have HY5 := Lib.hid hy5
          have HX5b := Lib.hid hx5
          have HR5b := Lib.hid hr5
          have HG5b := Lib.hid hg5
          have HLT := Lib.hid (And.intro (Array.getElem?_eq_some_iff.1 hy5).1 (Array.getElem?_eq_some_iff.1 hx5).1)
          clear hy5 hx5 hr5 hg5 HR5 HG5 HX5
          cases ho : (oneF s 61 k).1
          · have HO := Lib.hid ho
            rw [ho] at O1
            clear ho
            go_wp2_with fail
            have hr5d : Rd b s k wy.drew := HR5b.out
            (with_reducible refine (O1.out wy.drew hr5d).mono ?_)
            rintro e w6 ⟨rfl, hr6, hg6⟩
            have hy6 := (hg6.block gx HLT.out.1 (fun e => hble (Option.some.inj e).symm)).trans HY5.out
            have hx6 := (hg6.block w.heap.size HLT.out.2 (fun e => hbl2 (Option.some.inj e).symm)).trans HX5b.out
            have hz0 := cell_at hy6 0
            have hz1 := cell_at hy6 1
            have hq0 := cell_at hx6 0
            have hq1 := cell_at hx6 1
            have hqf0 := frz_at hx6 0
            have hqf1 := frz_at hx6 1
            go_wp2_with fail
            have hgg := grown_trans (grown_drew HG5b.out) hg6
            refine bodyPost_ret (results_ct rfl _ _ w.heap.size 130 #[.string nm, .string ⟨#[]⟩] (0, 0) _ rfl (set2 hx6 _ _) Tryz.underlying130 rfl rfl) rfl ?_
            have he : res = (⟨nm, ⟨#[]⟩⟩, false, (oneF s 61 k).2) := by
              have hjk : nameF s i = k := by
                have h3 := hsk.out
                have h4 := HN.out
                rw [HJ.out]
                omega
              rw [← HS.out, labelF, hjk, if_neg (by omega), HO.out, if_neg (by decide), hnm]
            rw [he]
            refine ⟨rfl, ?_, grown_new (grown_new hgg (Nat.le_refl _) _ _) (Nat.le_refl _) _ _⟩
            show (World.setCell _ _ _).heap[b]? = _
            rw [Below.heap_setCell _ _ _ _ (by show b ≠ w.heap.size; exact hbl2), Below.heap_setCell _ _ _ _ (by show b ≠ w.heap.size; exact hbl2)]
            exact hr6
          · have HO := Lib.hid ho
            rw [ho] at O1
            clear ho
            obtain ⟨v, m, e0, hu, hm⟩ := unqAll_kinds (s.extract (oneF s 61 k).2 s.size)
            have hus : (s.extract (oneF s 61 k).2 s.size).size ≤ s.size - (oneF s 61 k).2 := by rw [ByteArray.size_extract]; omega
            have U1 := Lib.hid (fun W => unquote_any (s.extract (oneF s 61 k).2 s.size) W (by omega))
            have hl : labelF s i = (⟨nm, (unqAll (s.extract (oneF s 61 k).2 s.size)).1⟩, (unqAll (s.extract (oneF s 61 k).2 s.size)).2.2 == 0, (oneF s 61 k).2 + (unqAll (s.extract (oneF s 61 k).2 s.size)).2.1.toNat) := by
              have hjk : nameF s i = k := by
                have h3 := hsk.out
                have h4 := HN.out
                rw [HJ.out]
                omega
              rw [labelF, hjk, if_neg (by omega), HO.out, if_pos rfl, hnm]
            have HL := Lib.hid hl
            clear hl
            rw [hu] at HL
            have U1 := Lib.hid (show ∀ W, Calls Tryz.prog 10 #[.string (s.extract (oneF s 61 k).2 s.size)] W fun e w' => e = .returned (.tuple #[.string v, .int .i64 (m : Int), .int .i64 e0]) ∧ Below W.heap.size W w' from by
              have := U1.out
              rw [hu] at this
              exact this)
            clear hu
            generalize hj2 : (oneF s 61 k).2 = j at *
            go_wp2_with fail
            have hr5d : Rd b s k wy.drew := HR5b.out
            (with_reducible refine (O1.out wy.drew hr5d).mono ?_)
            rintro e w6 ⟨rfl, hr6, hg6⟩
            have hy6 := (hg6.block gx HLT.out.1 (fun e => hble (Option.some.inj e).symm)).trans HY5.out
            have hx6 := (hg6.block w.heap.size HLT.out.2 (fun e => hbl2 (Option.some.inj e).symm)).trans HX5b.out
            have hz0 := cell_at hy6 0
            have hz1 := cell_at hy6 1
            have hq0 := cell_at hx6 0
            have hq1 := cell_at hx6 1
            have hqf0 := frz_at hx6 0
            have hqf1 := frz_at hx6 1
            have hg6' := grown_trans (grown_drew HG5b.out) hg6
            have hgb := (Array.getElem?_eq_some_iff.1 hy6).1
            have hxb := (Array.getElem?_eq_some_iff.1 hx6).1
            clear hz0 hz1 hq0 hq1 hqf0 hqf1
            go_upto_region 8 with (fail)
            have hd0 := fun p : BelowAt w6.heap.size w6 => (hr6.below p.h).c0
            have hd1 := fun p : BelowAt w6.heap.size w6 => (hr6.below p.h).c1
            have hjz : (0 : Int) ≤ (j : Int) := by omega
            have hjs : (j : Int) ≤ (s.size : Int) := by omega
            refine wp_region_quiet_below w6.heap.size w6 (by kernel_rfl) (by kernel_rfl) (Below.refl _ _) ?_
            repeat go_big_quiet_step (first | (go_at_call 10; exact calls_below_of (Nat.le_refl _) (U1.out _)))
            refine wpQuiet_nil ?_
            intro w8 hw8
            have hb8 : Below w6.heap.size w6 w8 := by
              obtain ⟨p, rfl⟩ := hw8
              exact p.h
            clear hw8 hd0 hd1
            have hr8 := hr6.below hb8
            have hy8 := (hb8.block gx hgb).trans hy6
            have hx8 := (hb8.block _ hxb).trans hx6
            have hg8 := grown_below hg6' hb8
            have hz0 := cell_at hy8 0
            have hz1 := cell_at hy8 1
            have hzf1 := frz_at hy8 1
            have hq0 := cell_at hx8 0
            have hq1 := cell_at hx8 1
            have hqf0 := frz_at hx8 0
            have hqf1 := frz_at hx8 1
            have hr1 := hr8.c1
            have hrf := hr8.fr 1
            have hwr : IntKind.i64.wrap ((j : Int) + (m : Int)) = ((j + m : Nat) : Int) := by rw [IntKind.wrap_i64]; omega
            go_wp2_with fail
            have hx9 : ((w8.setCell ⟨gx, 1, none⟩ (.string v)).setCell ⟨b, 1, none⟩ (.int .i64 ((j : Int) + (m : Int)))).heap[w.heap.size]? = some (.cells #[.string ⟨#[]⟩, .string ⟨#[]⟩] 130 (0, 0)) := by
              rw [Below.heap_setCell _ _ _ _ (by show w.heap.size ≠ b; exact hbl2.symm), Below.heap_setCell _ _ _ _ (by show w.heap.size ≠ gx; exact hgl2.symm)]
              exact hx8
            have hr9 : Rd b s (j + m) ((w8.setCell ⟨gx, 1, none⟩ (.string v)).setCell ⟨b, 1, none⟩ (.int .i64 ((j : Int) + (m : Int)))) := by
              have h : Rd b s j (w8.setCell ⟨gx, 1, none⟩ (.string v)) := (Below.heap_setCell _ _ _ _ (by show b ≠ gx; exact hble)).trans hr8
              exact h.set (j + m)
            have hg9 : w.grownBy ((w8.setCell ⟨gx, 1, none⟩ (.string v)).setCell ⟨b, 1, none⟩ (.int .i64 ((j : Int) + (m : Int)))) (some b) := grown_trans (grown_new hg8 hwz _ _) (grown_set _ _ _ _)
            refine bodyPost_ret (results_ct rfl _ _ w.heap.size 130 #[.string nm, .string v] (0, 0) _ rfl (set2 hx9 _ _) Tryz.underlying130 rfl rfl) rfl ?_
            have he : res = (⟨nm, v⟩, e0 == 0, j + m) := by
              rw [← HS.out, HL.out]
              simp
            rw [he]
            refine ⟨rfl, ?_, grown_new (grown_new hg9 (Nat.le_refl _) _ _) (Nat.le_refl _) _ _⟩
            show (World.setCell _ _ _).heap[b]? = _
            rw [Below.heap_setCell _ _ _ _ (by show b ≠ w.heap.size; exact hbl2), Below.heap_setCell _ _ _ _ (by show b ≠ w.heap.size; exact hbl2)]
            exact hr9
  · have HJ := Lib.hid (show nameF s i = i by rw [nameF, dif_neg hlt])
    have hdk : decide ((i : Int) < (s.size : Int)) = false := decide_eq_false (by omega)
    have hdk2 : decide (i < s.size) = false := decide_eq_false (by omega)
    go_enter Tryz.func66, Tryz.ntmps66
    go_upto_region 5 with (fail)
    have HR5 := HR
    have HG5 := HG
    have HX5 := HX
    clear hc0 hc1 HR HG HX
    generalize w.alloc (.cells #[.string ⟨#[]⟩, .string ⟨#[]⟩] 130) = wz at HR5 HG5 HX5 ⊢
    have hc0 := HR5.out.c0
    have hc1 := HR5.out.c1
    have his : (i : Int) ≤ (s.size : Int) := by omega
    have hba5 := fun o => (Below.refl wz.heap.size wz).alloc (Nat.le_refl _) o
    have hq0 : ∀ o, (wz.alloc o).cell? ⟨w.heap.size, 0, none⟩ = some (.string ⟨#[]⟩) := fun o => pw_cell_below (hba5 o) (cell_at HX5.out 0)
    have hq1 : ∀ o, (wz.alloc o).cell? ⟨w.heap.size, 1, none⟩ = some (.string ⟨#[]⟩) := fun o => pw_cell_below (hba5 o) (cell_at HX5.out 1)
    have hqf0 : ∀ o, (wz.alloc o).frozen? ⟨w.heap.size, 0, none⟩ = false := fun o => frz_at (((hba5 o).block _ (Array.getElem?_eq_some_iff.1 HX5.out).1).trans HX5.out) 0
    have hqf1 : ∀ o, (wz.alloc o).frozen? ⟨w.heap.size, 1, none⟩ = false := fun o => frz_at (((hba5 o).block _ (Array.getElem?_eq_some_iff.1 HX5.out).1).trans HX5.out) 1
    have HBA := Lib.hid hba5
    clear hba5
    go_region_held3 (fun w' => w'.cell? ⟨b, 0, none⟩ = some (.string s) ∧ w'.cell? ⟨b, 1, none⟩ = some (.int .i64 i))
      (first | exact ⟨hc0, hc1⟩ | go_keep)
      (first | fail)
    go_wp2_with fail
    have hb5 := HBA.out (.cells #[.string ByteArray.empty, .string ⟨#[]⟩] 130)
    have hxx := (hb5.block _ (Array.getElem?_eq_some_iff.1 HX5.out).1).trans HX5.out
    have hrr := HR5.out.below hb5
    have hgg := grown_below HG5.out hb5
    refine bodyPost_ret (results_ct rfl _ _ w.heap.size 130 #[.string ByteArray.empty, .string ⟨#[]⟩] (0, 0) _ rfl (set2 hxx _ _) Tryz.underlying130 rfl rfl) rfl ?_
    have he : res = (⟨ByteArray.empty, ⟨#[]⟩⟩, false, i) := by
      rw [← HS.out, labelF, if_pos HJ.out, HJ.out]
      simp
    rw [he]
    refine ⟨rfl, ?_, grown_drew (grown_new (grown_new hgg (Nat.le_refl _) _ _) (Nat.le_refl _) _ _)⟩
    show (World.setCell _ _ _).heap[b]? = _
    rw [Below.heap_setCell _ _ _ _ (by show b ≠ w.heap.size; omega), Below.heap_setCell _ _ _ _ (by show b ≠ w.heap.size; omega)]
    exact hrr
end
section
open Go.RowKit Go.Proofs.YtkanfffbdegfoaaGreatDoorW.PrintWords Go.Proofs.YtkanfffbdegfoaaGreatDoorW.PrintLast Go.Proofs.YtkanfffbdegfoaaGreatDoorW.PrintMore

/-- Labels with commas between, from a place on, behind some: the labels, whether it went well, where it stands. -/
def plF (s : ByteArray) : Nat → Nat → List S130 → List S130 × Bool × Nat
  | 0, i, l => (l, false, i)
  | f + 1, i, l =>
    if (labelF s i).2.1 = true then
      (if (oneF s 44 (labelF s i).2.2).1 = true then plF s f (oneF s 44 (labelF s i).2.2).2 (l ++ [(labelF s i).1]) else (l ++ [(labelF s i).1], true, (oneF s 44 (labelF s i).2.2).2))
    else (l ++ [(labelF s i).1], false, (labelF s i).2.2)
/-- Behind the labels: the closing brace. -/
def endF (s : ByteArray) (p : List S130 × Bool × Nat) : List S130 × Bool × Nat := if p.2.1 = true then (p.1, oneF s 125 p.2.2) else p
def parseR (s : ByteArray) : List S130 × Bool × Nat :=
  if (oneF s 123 0).1 = true then
    (if (oneF s 125 (oneF s 123 0).2).1 = true then ([], true, (oneF s 125 (oneF s 123 0).2).2) else endF s (plF s (s.size + 1) (oneF s 125 (oneF s 123 0).2).2 []))
  else ([], false, (oneF s 123 0).2)
def parseF (s : ByteArray) : List S130 × S61 :=
  if (parseR s).2.1 = true ∧ ¬ (parseR s).2.2 < s.size then ((setL (parseR s).1).1, ⟨(setL (parseR s).1).2, 0⟩) else ([], ⟨134, (parseR s).2.2⟩)
theorem labelF_le (s : ByteArray) (i : Nat) (h : i ≤ s.size) : i ≤ (labelF s i).2.2 ∧ (labelF s i).2.2 ≤ s.size := by
  have h1 := nameF_le s i h
  have h2 := oneF_le s 61 (nameF s i) h1.2
  unfold labelF
  split
  · exact h1
  · split
    · obtain ⟨v, m, e, hu, hm⟩ := unqAll_kinds (s.extract (oneF s 61 (nameF s i)).2 s.size)
      rw [ByteArray.size_extract] at hm
      rw [hu]
      simp only [Int.toNat_natCast]
      omega
    · simp only
      omega
def boolOf : Value → Bool
  | .bool x => x
  | _ => false

/-- What Parse's walk keeps of the world: its reader, its fault, what lies below. -/
structure PSt (b g : Nat) (s : ByteArray) (i : Nat) (w W : World) : Prop where
  rd : Rd b s i W
  flt : W.heap[g]? = some (.cells #[.int .i64 0, .int .i64 0] 61 (0, 0))
  bel : Below g w W
  gb : g < b
  gw : w.heap.size = g
theorem PSt.step {b g i j : Nat} {s : ByteArray} {w W W' : World} (h : PSt b g s i w W) (hr : Rd b s j W') (hg : W.grownBy W' (some b)) : PSt b g s j w W' :=
  ⟨hr, (hg.block g (Array.getElem?_eq_some_iff.1 h.flt).1 (fun e => absurd (Option.some.inj e) (Nat.ne_of_lt h.gb))).trans h.flt, h.bel.grown hg (Nat.le_of_lt (Array.getElem?_eq_some_iff.1 h.flt).1) (fun k hk => by have := Option.some.inj hk; have := h.gb; omega), h.gb, h.gw⟩
theorem PSt.below {b g i : Nat} {s : ByteArray} {w W W' : World} (h : PSt b g s i w W) (hb : Below W.heap.size W W') : PSt b g s i w W' :=
  ⟨h.rd.below hb, (hb.block g (Array.getElem?_eq_some_iff.1 h.flt).1).trans h.flt, h.bel.trans (hb.mono (Nat.le_of_lt (Array.getElem?_eq_some_iff.1 h.flt).1)), h.gb, h.gw⟩
theorem PSt.app {b g i : Nat} {s : ByteArray} {w W W' : World} {v : Value} {l : List S130} (h : PSt b g s i w W) (hR : Kd.R k130 130 W g (fun _ => True) v l) (hb : Below g w W') (hg : W.grownBy W' v.ownBlock) : PSt b g s i w W' :=
  ⟨(hg.block b h.rd.lt (Kd.R_ne hR h.rd (by decide))).trans h.rd, (hg.block g (Array.getElem?_eq_some_iff.1 h.flt).1 (Kd.R_ne hR h.flt (by decide))).trans h.flt, hb, h.gb, h.gw⟩
theorem plF_stop {s : ByteArray} {f i : Nat} {l : List S130} (h : (labelF s i).2.1 = false) : plF s (f + 1) i l = (l ++ [(labelF s i).1], false, (labelF s i).2.2) := by rw [plF, h]; rfl
theorem plF_last {s : ByteArray} {f i : Nat} {l : List S130} (h : (labelF s i).2.1 = true) (ho : (oneF s 44 (labelF s i).2.2).1 = false) : plF s (f + 1) i l = (l ++ [(labelF s i).1], true, (oneF s 44 (labelF s i).2.2).2) := by rw [plF, h, ho]; rfl
theorem plF_more {s : ByteArray} {f i : Nat} {l : List S130} (h : (labelF s i).2.1 = true) (ho : (oneF s 44 (labelF s i).2.2).1 = true) : plF s (f + 1) i l = plF s f (oneF s 44 (labelF s i).2.2).2 (l ++ [(labelF s i).1]) := by rw [plF, h, ho]; rfl
theorem cell_far2 {w : World} {g b j : Nat} {u : Option Value} (hne : b ≠ g) (h : w.cell? ⟨b, j, none⟩ = u) (x y : Value) : ((w.setCell ⟨g, 0, none⟩ x).setCell ⟨g, 1, none⟩ y).cell? ⟨b, j, none⟩ = u := by
  rw [← h]
  exact World.cell?_of_block ((Below.heap_setCell _ _ _ _ hne).trans (Below.heap_setCell _ _ _ _ hne))
theorem set2' {w : World} {g : Nat} {a b : Value} {t : TypeId} (h : w.heap[g]? = some (.cells #[a, b] t (0, 0))) (x y : Value) : ((w.setCell ⟨g, 0, none⟩ x).setCell ⟨g, 1, none⟩ y).heap[g]? = some (.cells #[x, y] t (0, 0)) := by
  simp [World.setCell, Array.getElem?_modify, h]
set_option maxHeartbeats 4000000 in
set_option maxRecDepth 100000 in
theorem parse_calls (s : ByteArray) (w : World) (hs : s.size < 1099511627776) :
    Calls Tryz.prog 15 #[.string s] w fun e w' => ∃ v, e = .returned (.tuple #[v, .agg #[.int .i64 (parseF s).2.f0, .int .i64 (parseF s).2.f1]]) ∧ Kd.R k130 130 w' w.heap.size (fun _ => True) v (parseF s).1 ∧ Below w.heap.size w w' := by
  generalize hres : parseF s = res
  have HS := Lib.hid hres
  clear hres
  have O : ∀ (b c i : Nat) (W : World), Rd b s i W → i ≤ s.size → Calls Tryz.prog 65 #[.pointer (some ⟨b, 0, none⟩), .int .u8 c] W fun e w' => e = .returned (.bool (oneF s c i).1) ∧ Rd b s (oneF s c i).2 w' ∧ W.grownBy w' (some b) := fun b c i W h hi => one_calls b s c i W h hi (by omega)
  have O123 := Lib.hid (show ∀ (b i : Nat) (W : World), Rd b s i W → i ≤ s.size → Calls Tryz.prog 65 #[.pointer (some ⟨b, 0, none⟩), .int .u8 123] W fun e w' => e = .returned (.bool (oneF s 123 i).1) ∧ Rd b s (oneF s 123 i).2 w' ∧ W.grownBy w' (some b) from fun b => O b 123)
  have O125 := Lib.hid (show ∀ (b i : Nat) (W : World), Rd b s i W → i ≤ s.size → Calls Tryz.prog 65 #[.pointer (some ⟨b, 0, none⟩), .int .u8 125] W fun e w' => e = .returned (.bool (oneF s 125 i).1) ∧ Rd b s (oneF s 125 i).2 w' ∧ W.grownBy w' (some b) from fun b => O b 125)
  have O44 := Lib.hid (show ∀ (b i : Nat) (W : World), Rd b s i W → i ≤ s.size → Calls Tryz.prog 65 #[.pointer (some ⟨b, 0, none⟩), .int .u8 44] W fun e w' => e = .returned (.bool (oneF s 44 i).1) ∧ Rd b s (oneF s 44 i).2 w' ∧ W.grownBy w' (some b) from fun b => O b 44)
  clear O
  have hp0 : PSt (w.heap.size + 1) w.heap.size s 0 w ((w.alloc (.cells #[.int .i64 0, .int .i64 0] 61)).alloc (.cells #[.string s, .int .i64 0] 127)) := by
    have h1 : (w.alloc (.cells #[.int .i64 0, .int .i64 0] 61)).heap.size = w.heap.size + 1 := by simp
    refine ⟨?_, ?_, ((Below.refl _ w).alloc (Nat.le_refl _) _).alloc (by omega) _, by omega, rfl⟩
    · have := heap_alloc_new (w.alloc (.cells #[.int .i64 0, .int .i64 0] 61)) (.cells #[.string s, .int .i64 0] 127)
      rw [h1] at this
      exact this
    · rw [Below.heap_alloc _ _ _ (by omega)]
      exact heap_alloc_new _ _
  have HP := Lib.hid hp0
  clear hp0
  cases ho : (oneF s 123 0).1
  · have HO := Lib.hid ho
    have HE := Lib.hid (show res = ([], ⟨134, (oneF s 123 0).2⟩) by rw [← HS.out, parseF, parseR, HO.out]; simp)
    clear ho
    go_enter Tryz.func15, Tryz.ntmps15
    go_wp2_with fail
    refine (O123.out _ 0 _ HP.out.rd (Nat.zero_le _)).mono ?_
    rintro e w1 ⟨rfl, hr1, hg1⟩
    replace HP := Lib.hid (HP.out.step hr1 hg1)
    clear hr1 hg1
    rw [HO.out]
    generalize hj : (oneF s 123 0).2 = j at HP HE
    generalize hg : w.heap.size = g at HP ⊢
    generalize hb : g + 1 = b at HP ⊢
    try go_upto_region 13 with (fail)
    have hrd := HP.out.rd
    have hc1 := hrd.c1
    have hx := HP.out.flt
    have hq0 := cell_at hx 0
    have hq1 := cell_at hx 1
    have hqf0 := frz_at hx 0
    have hqf1 := frz_at hx 1
    clear hrd
    have hbg : b ≠ g := Nat.ne_of_gt HP.out.gb
    go_region_held3 (fun w' => w'.cell? ⟨b, 1, none⟩ = some (.int .i64 j))
      (first | exact hc1 | exact cell_far2 hbg hc1 _ _ | (go_keep; done))
      (first | fail)
    go_wp2_with fail
    refine bodyPost_ret (results_tc rfl _ _ g 61 #[.int .i64 134, .int .i64 j] (0, 0) _ rfl (by first | exact set2' hx _ _ | exact set2 hx _ _) Tryz.underlying61 rfl rfl) rfl ?_
    rw [HE.out]
    refine ⟨_, rfl, Kd.R_nil _ _ _ _ _, ?_⟩
    have hbb := HP.out.bel
    have hgw := HP.out.gw
    subst hgw
    first
      | exact ((hbb.setCell (p := ⟨_, 0, none⟩) (Nat.le_refl _) _).setCell (p := ⟨_, 1, none⟩) (Nat.le_refl _) _)
      | exact below_drew1 ((hbb.setCell (p := ⟨_, 0, none⟩) (Nat.le_refl _) _).setCell (p := ⟨_, 1, none⟩) (Nat.le_refl _) _)
  · have HO := Lib.hid ho
    clear ho
    have hl1 := oneF_le s 123 0 (Nat.zero_le _)
    have hl2 := oneF_le s 125 (oneF s 123 0).2 hl1.2
    cases hc : (oneF s 125 (oneF s 123 0).2).1
    · have HC := Lib.hid hc
      clear hc
      have HRR := Lib.hid (show parseR s = endF s (plF s (s.size + 1) (oneF s 125 (oneF s 123 0).2).2 []) by rw [parseR, HO.out, if_pos rfl, HC.out, if_neg (by decide)])
      go_enter Tryz.func15, Tryz.ntmps15
      go_wp2_with fail
      refine (O123.out _ 0 _ HP.out.rd (Nat.zero_le _)).mono ?_
      rintro e w1 ⟨rfl, hr1, hg1⟩
      replace HP := Lib.hid (HP.out.step hr1 hg1)
      clear hr1 hg1
      rw [HO.out]
      go_wp2_with fail
      refine (O125.out _ _ _ HP.out.rd hl1.2).mono ?_
      rintro e w2 ⟨rfl, hr2, hg2⟩
      replace HP := Lib.hid (HP.out.step hr2 hg2)
      clear hr2 hg2
      rw [HC.out]
      go_wp2_with fail
      have hi2 := hl2.2
      clear hl1 hl2 HC HO
      generalize (oneF s 125 (oneF s 123 0).2).2 = i2 at HP HRR hi2
      have HV := Lib.hid (show Kd.R k130 130 w2 w.heap.size (fun _ => True) (.slice none 0 0) [] from Kd.R_nil _ _ _ _ _)
      generalize hg : w.heap.size = g at HP HV ⊢
      generalize hb : g + 1 = b at HP ⊢
      go_loopw [5, 6, 7] (fun v5 v6 v7 wr => ∃ (i f : Nat) (l : List S130) (ok more : Bool), v6 = .bool ok ∧ v7 = .bool more ∧ i ≤ s.size ∧ Hid (PSt b g s i w wr) ∧ Hid (Kd.R k130 130 wr g (fun _ => True) v5 l) ∧ Hid (l.length ≤ i + 1 ∧ ((ok && more) = true → l.length ≤ i ∧ s.size - i < f)) ∧ Hid ((if (ok && more) = true then plF s f i l else (l, ok, i)) = plF s (s.size + 1) i2 [])) (fun _ v6 v7 wr => if (boolOf v6 && boolOf v7) = true then s.size + 1 - atOf wr b else 0)
      case atStart => exact ⟨i2, s.size + 1, [], true, true, rfl, rfl, hi2, HP, HV, Lib.hid ⟨Nat.zero_le _, fun _ => ⟨Nat.zero_le _, by omega⟩⟩, Lib.hid rfl⟩
      case round =>
        clear HP HV
        obtain ⟨i, f, l, ok, more, rfl, rfl, hi, HP, HV, HL, HQ⟩ := hrel
        have hil := HL.out.1
        cases ok
        · have HQ2 := Lib.hid (show plF s (s.size + 1) i2 [] = (l, false, i) from HQ.out.symm)
          have HE := Lib.hid (show res = ([], ⟨134, i⟩) by
            rw [← HS.out, parseF, HRR.out, HQ2.out, endF]
            simp)
          clear hil
          go_wp2_with fail
          generalize hj : i = j at HP HE hi
          try go_upto_region 13 with (fail)
          have hrd := HP.out.rd
          have hc1 := hrd.c1
          have hx := HP.out.flt
          have hq0 := cell_at hx 0
          have hq1 := cell_at hx 1
          have hqf0 := frz_at hx 0
          have hqf1 := frz_at hx 1
          clear hrd
          have hbg : b ≠ g := Nat.ne_of_gt HP.out.gb
          go_region_held3 (fun w' => w'.cell? ⟨b, 1, none⟩ = some (.int .i64 j))
            (first | exact hc1 | exact cell_far2 hbg hc1 _ _ | (go_keep; done))
            (first | fail)
          go_wp2_with fail
          refine bodyPost_ret (results_tc rfl _ _ g 61 #[.int .i64 134, .int .i64 j] (0, 0) _ rfl (by first | exact set2' hx _ _ | exact set2 hx _ _) Tryz.underlying61 rfl rfl) rfl ?_
          rw [HE.out]
          refine ⟨_, rfl, Kd.R_nil _ _ _ _ _, ?_⟩
          have hbb := HP.out.bel
          have hgw := HP.out.gw
          subst hgw
          first
            | exact ((hbb.setCell (p := ⟨_, 0, none⟩) (Nat.le_refl _) _).setCell (p := ⟨_, 1, none⟩) (Nat.le_refl _) _)
            | exact below_drew1 ((hbb.setCell (p := ⟨_, 0, none⟩) (Nat.le_refl _) _).setCell (p := ⟨_, 1, none⟩) (Nat.le_refl _) _)
        · cases more
          · have HQ2 := Lib.hid (show plF s (s.size + 1) i2 [] = (l, true, i) from HQ.out.symm)
            have hdl := oneF_le s 125 i hi
            cases hd : (oneF s 125 i).1
            · have HD := Lib.hid hd
              have HE := Lib.hid (show res = ([], ⟨134, (oneF s 125 i).2⟩) by
                rw [← HS.out, parseF, HRR.out, HQ2.out, endF]
                simp [hd])
              clear hd hil
              go_wp2_with fail
              refine (O125.out _ _ _ HP.out.rd hi).mono ?_
              rintro e w3 ⟨rfl, hr3, hg3⟩
              replace HP := Lib.hid (HP.out.step hr3 hg3)
              clear hr3 hg3
              rw [HD.out]
              go_wp2_with fail
              generalize hj : (oneF s 125 i).2 = j at HP HE
              try go_upto_region 13 with (fail)
              have hrd := HP.out.rd
              have hc1 := hrd.c1
              have hx := HP.out.flt
              have hq0 := cell_at hx 0
              have hq1 := cell_at hx 1
              have hqf0 := frz_at hx 0
              have hqf1 := frz_at hx 1
              clear hrd
              have hbg : b ≠ g := Nat.ne_of_gt HP.out.gb
              go_region_held3 (fun w' => w'.cell? ⟨b, 1, none⟩ = some (.int .i64 j))
                (first | exact hc1 | exact cell_far2 hbg hc1 _ _ | (go_keep; done))
                (first | fail)
              go_wp2_with fail
              refine bodyPost_ret (results_tc rfl _ _ g 61 #[.int .i64 134, .int .i64 j] (0, 0) _ rfl (by first | exact set2' hx _ _ | exact set2 hx _ _) Tryz.underlying61 rfl rfl) rfl ?_
              rw [HE.out]
              refine ⟨_, rfl, Kd.R_nil _ _ _ _ _, ?_⟩
              have hbb := HP.out.bel
              have hgw := HP.out.gw
              subst hgw
              first
                | exact ((hbb.setCell (p := ⟨_, 0, none⟩) (Nat.le_refl _) _).setCell (p := ⟨_, 1, none⟩) (Nat.le_refl _) _)
                | exact below_drew1 ((hbb.setCell (p := ⟨_, 0, none⟩) (Nat.le_refl _) _).setCell (p := ⟨_, 1, none⟩) (Nat.le_refl _) _)
            · have HD := Lib.hid hd
              have hll : l.length ≤ 1099511627776 := by omega
              clear hil
              by_cases hj : (oneF s 125 i).2 < s.size
              · have HE := Lib.hid (show res = ([], ⟨134, (oneF s 125 i).2⟩) by
                  rw [← HS.out, parseF, HRR.out, HQ2.out, endF]
                  simp [hd, hj])
                have hjz : decide (((oneF s 125 i).2 : Int) < (s.size : Int)) = true := decide_eq_true (by omega)
                have hjz2 : decide ((oneF s 125 i).2 < s.size) = true := decide_eq_true (by omega)
                clear hd hj
                go_wp2_with fail
                refine (O125.out _ _ _ HP.out.rd hi).mono ?_
                rintro e w3 ⟨rfl, hr3, hg3⟩
                replace HP := Lib.hid (HP.out.step hr3 hg3)
                clear hr3 hg3
                rw [HD.out]
                have hr1 := HP.out.rd.c1
                go_wp2_with fail
                clear hr1 hjz hjz2 hdl
                generalize hj : (oneF s 125 i).2 = j at HP HE
                try go_upto_region 13 with (fail)
                have hrd := HP.out.rd
                have hc1 := hrd.c1
                have hx := HP.out.flt
                have hq0 := cell_at hx 0
                have hq1 := cell_at hx 1
                have hqf0 := frz_at hx 0
                have hqf1 := frz_at hx 1
                clear hrd
                have hbg : b ≠ g := Nat.ne_of_gt HP.out.gb
                go_region_held3 (fun w' => w'.cell? ⟨b, 1, none⟩ = some (.int .i64 j))
                  (first | exact hc1 | exact cell_far2 hbg hc1 _ _ | (go_keep; done))
                  (first | fail)
                go_wp2_with fail
                refine bodyPost_ret (results_tc rfl _ _ g 61 #[.int .i64 134, .int .i64 j] (0, 0) _ rfl (by first | exact set2' hx _ _ | exact set2 hx _ _) Tryz.underlying61 rfl rfl) rfl ?_
                rw [HE.out]
                refine ⟨_, rfl, Kd.R_nil _ _ _ _ _, ?_⟩
                have hbb := HP.out.bel
                have hgw := HP.out.gw
                subst hgw
                first
                  | exact ((hbb.setCell (p := ⟨_, 0, none⟩) (Nat.le_refl _) _).setCell (p := ⟨_, 1, none⟩) (Nat.le_refl _) _)
                  | exact below_drew1 ((hbb.setCell (p := ⟨_, 0, none⟩) (Nat.le_refl _) _).setCell (p := ⟨_, 1, none⟩) (Nat.le_refl _) _)
              · have HE := Lib.hid (show res = ((setL l).1, ⟨(setL l).2, 0⟩) by
                  rw [← HS.out, parseF, HRR.out, HQ2.out, endF]
                  simp only [if_true]
                  rw [if_pos ⟨hd, hj⟩])
                have hjz : decide (((oneF s 125 i).2 : Int) < (s.size : Int)) = false := decide_eq_false (by omega)
                have hjz2 : decide ((oneF s 125 i).2 < s.size) = false := decide_eq_false (by omega)
                have hne : some b ≠ u5.ownBlock := Kd.R_ne HV.out HP.out.rd (by decide)
                clear hd hj
                go_wp2_with fail
                refine (O125.out _ _ _ HP.out.rd hi).mono ?_
                rintro e w3 ⟨rfl, hr3, hg3⟩
                replace HV := Lib.hid (Kd.R_grown1 HV.out rfl hg3 hne)
                replace HP := Lib.hid (HP.out.step hr3 hg3)
                clear hr3 hg3 hne
                rw [HD.out]
                have hr1 := HP.out.rd.c1
                go_upto_region 14 with (fail)
                clear hr1 hjz hjz2 hdl
                generalize hj : (oneF s 125 i).2 = j at HP
                obtain ⟨A, c, hv, hcap, hC⟩ := Kd.R_reads HV.out
                first
                  | subst hv
                  | (injection hv with ha h0 hc; clear h0; subst ha hc)
                have S1 := Lib.hid (set_calls _ _ l _ hC hcap hll)
                clear hC hcap
                go_wp2_with fail
                refine S1.out.mono ?_
                rintro e w9 ⟨v9, rfl, hR9, hb9⟩
                have HP9 := Lib.hid (Nat.le_trans (Nat.le_of_eq HP.out.gw.symm) HP.out.bel.size)
                replace HP := Lib.hid (HP.out.below hb9)
                clear hb9
                have hx := HP.out.flt
                have hq0 := cell_at hx 0
                have hq1 := cell_at hx 1
                have hqf0 := frz_at hx 0
                have hqf1 := frz_at hx 1
                have HR9 := Lib.hid hR9
                clear hR9 S1
                go_wp2_with fail
                refine bodyPost_ret (results_tc rfl _ _ g 61 #[.int .i64 (setL l).2, .int .i64 0] (0, 0) _ rfl (by first | exact set2' hx _ _ | exact set2 hx _ _) Tryz.underlying61 rfl rfl) rfl ?_
                rw [HE.out]
                have hbb := HP.out.bel
                have hgw := HP.out.gw
                have hsz := HP9.out
                have hRl := Kd.R_lower HR9.out (base' := g) (by omega)
                have hR1 := Kd.R_set hRl hx (by decide) 0 (.int .i64 (setL l).2)
                have hx1 : (w9.setCell ⟨g, 0, none⟩ (.int .i64 (setL l).2)).heap[g]? = some (.cells #[.int .i64 (setL l).2, .int .i64 0] 61 (0, 0)) := by simp [World.setCell, Array.getElem?_modify, hx]
                have hR2 := Kd.R_set hR1 hx1 (by decide) 1 (.int .i64 0)
                subst hgw
                exact ⟨_, rfl, hR2, ((hbb.setCell (p := ⟨_, 0, none⟩) (Nat.le_refl _) _).setCell (p := ⟨_, 1, none⟩) (Nat.le_refl _) _)⟩
          · have hlab := labelF_le s i hi
            have hwr := (Below.refl wr.heap.size wr).alloc (Nat.le_refl _) (.cells #[.string ⟨#[]⟩, .string ⟨#[]⟩] 130)
            have hxa : (wr.alloc (.cells #[.string ⟨#[]⟩, .string ⟨#[]⟩] 130)).heap[wr.heap.size]? = some (.cells #[.string ⟨#[]⟩, .string ⟨#[]⟩] 130 (0, 0)) := heap_alloc_new _ _
            have hbl := HP.out.rd.lt
            have hble : wr.heap.size ≠ b := by omega
            have hne : some b ≠ u5.ownBlock := Kd.R_ne HV.out HP.out.rd (by decide)
            obtain ⟨hll, hf⟩ := HL.out.2 rfl
            have HP0 := Lib.hid (show atOf wr b = i ∧ i ≤ s.size from ⟨HP.out.rd.pos, hi⟩)
            obtain ⟨f, rfl⟩ : ∃ f', f = f' + 1 := ⟨f - 1, by omega⟩
            have hlc := label_calls b s i (wr.alloc (.cells #[.string ⟨#[]⟩, .string ⟨#[]⟩] 130)) (HP.out.rd.below hwr) hi (by omega)
            have hst := plF_stop (s := s) (f := f) (i := i) (l := l)
            have hla := plF_last (s := s) (f := f) (i := i) (l := l)
            have hmo := plF_more (s := s) (f := f) (i := i) (l := l)
            obtain ⟨x, ok2, j, hlf⟩ : ∃ x ok2 j, labelF s i = (x, ok2, j) := ⟨_, _, _, rfl⟩
            rw [hlf] at hlc hst hla hmo hlab
            simp only at hlc hst hla hmo hlab
            have L1 := Lib.hid hlc
            have HST := Lib.hid hst
            have HLA := Lib.hid hla
            have HMO := Lib.hid hmo
            have HQ2 := Lib.hid (show plF s (f + 1) i l = plF s (s.size + 1) i2 [] from HQ.out)
            clear hlc hst hla hmo hlf hil
            go_wp2_with fail
            refine L1.out.mono ?_
            rintro e w1 ⟨rfl, hr1, hg1⟩
            have hx1 := (hg1.block wr.heap.size (Array.getElem?_eq_some_iff.1 hxa).1 (fun e => hble (Option.some.inj e))).trans hxa
            have hgg1 := grown_trans (grown_of_below hwr (some b)) hg1
            have HG2 := Lib.hid (grown_new (grown_new hgg1 (Nat.le_refl _) 0 (.string x.f0)) (Nat.le_refl _) 1 (.string x.f1))
            have hr2 : Rd b s j ((w1.setCell ⟨wr.heap.size, 0, none⟩ (.string x.f0)).setCell ⟨wr.heap.size, 1, none⟩ (.string x.f1)) := ((Below.heap_setCell _ _ _ _ hble.symm).trans (Below.heap_setCell _ _ _ _ hble.symm)).trans hr1
            have HX2 := Lib.hid (set2' hx1 (.string x.f0) (.string x.f1))
            replace HV := Lib.hid (Kd.R_grown1 HV.out rfl HG2.out hne)
            replace HP := Lib.hid (HP.out.step hr2 HG2.out)
            have hq0 := cell_at hx1 0
            have hq1 := cell_at hx1 1
            have hqf0 := frz_at hx1 0
            have hqf1 := frz_at hx1 1
            clear hxa hg1 hwr L1 hx1 hgg1 hr1 hr2
            go_upto_region 9 with (fail)
            generalize (w1.setCell ⟨wr.heap.size, 0, none⟩ (.string x.f0)).setCell ⟨wr.heap.size, 1, none⟩ (.string x.f1) = w2 at HP HV HX2 HG2 ⊢
            have hz0 := cell_at HX2.out 0
            have hz1 := cell_at HX2.out 1
            have hgb : g ≤ w2.heap.size := Nat.le_trans (Nat.le_of_eq HP.out.gw.symm) HP.out.bel.size
            clear hq0 hq1 hqf0 hqf1
            cases ok2
            · go_wp2_with (at_builtin; refine Kd.R_append k130 (w0 := w) g rfl (.tmp 31) (.tmp 33) 59 130 (.agg #[(.string ⟨#[]⟩), (.string ⟨#[]⟩)]) 32 rfl Tryz.underlying59 info130 rfl (by decide) (by omega) u5 l x [.string x.f0, .string x.f1] (fun _ => True) (fun _ => False) rfl rfl ?aP (fun _ hk => hk.elim) (fun _ _ => trivial) HV.out HP.out.bel hgb ?aL ?_; (case aP => exact k130_mkM _ _ _ _); (case aL => omega); rintro v9 w3 hR3 hb3 hg3 hat3)
              refine ⟨⟨j, 0, l ++ [x], false, false, rfl, rfl, hlab.2, Lib.hid (HP.out.app HV.out hb3 hg3), Lib.hid hR3, Lib.hid ⟨by rw [List.length_append, List.length_singleton]; omega, fun h => by cases h⟩, Lib.hid ?_⟩, ?_⟩
              · rw [← HQ2.out, HST.out rfl]
                rfl
              · show (if (false && false) = true then (s.size + 1 - atOf w3 b) else 0) < (if (true && true) = true then s.size + 1 - atOf wr b else 0)
                have := HP0.out
                rw [if_neg (by decide), if_pos (by decide)]
                omega
            · go_wp2_with (at_builtin; refine Kd.R_append k130 (w0 := w) g rfl (.tmp 31) (.tmp 33) 59 130 (.agg #[(.string ⟨#[]⟩), (.string ⟨#[]⟩)]) 32 rfl Tryz.underlying59 info130 rfl (by decide) (by omega) u5 l x [.string x.f0, .string x.f1] (fun _ => True) (fun _ => False) rfl rfl ?aP (fun _ hk => hk.elim) (fun _ _ => trivial) HV.out HP.out.bel hgb ?aL ?_; (case aP => exact k130_mkM _ _ _ _); (case aL => omega); rintro v9 w3 hR3 hb3 hg3 hat3)
              replace HP := Lib.hid (HP.out.app HV.out hb3 hg3)
              clear hb3 hg3 hat3
              have hne9 : some b ≠ v9.ownBlock := Kd.R_ne hR3 HP.out.rd (by decide)
              have hl4 := oneF_le s 44 j hlab.2
              have hm4 := oneF_more s 44 j hlab.2
              refine (O44.out _ _ _ HP.out.rd hlab.2).mono ?_
              rintro e w4 ⟨rfl, hr4, hg4⟩
              have HV4 := Lib.hid (Kd.R_grown1 hR3 rfl hg4 hne9)
              replace HP := Lib.hid (HP.out.step hr4 hg4)
              have hat4 := hr4.pos
              clear hr4 hg4 hR3
              cases ho4 : (oneF s 44 j).1
              · have HO4 := Lib.hid ho4
                clear ho4 hm4
                go_wp2_with fail
                refine ⟨⟨(oneF s 44 j).2, 0, l ++ [x], true, false, rfl, rfl, hl4.2, HP, HV4, Lib.hid ⟨by rw [List.length_append, List.length_singleton]; omega, fun h => by cases h⟩, Lib.hid ?_⟩, ?_⟩
                · rw [← HQ2.out, HLA.out trivial HO4.out]
                  rfl
                · show (if (true && false) = true then (s.size + 1 - atOf w4 b) else 0) < (if (true && true) = true then s.size + 1 - atOf wr b else 0)
                  have := HP0.out
                  rw [if_neg (by decide), if_pos (by decide)]
                  omega
              · have HO4 := Lib.hid ho4
                have hm5 := hm4 ho4
                clear ho4 hm4
                go_wp2_with fail
                refine ⟨⟨(oneF s 44 j).2, f, l ++ [x], true, true, rfl, rfl, hl4.2, HP, HV4, Lib.hid ⟨by rw [List.length_append, List.length_singleton]; omega, fun _ => ⟨by rw [List.length_append, List.length_singleton]; omega, by omega⟩⟩, Lib.hid ?_⟩, ?_⟩
                · rw [← HQ2.out, HMO.out trivial HO4.out]
                  rfl
                · show (if (true && true) = true then (s.size + 1 - atOf w4 b) else 0) < (if (true && true) = true then s.size + 1 - atOf wr b else 0)
                  have := HP0.out
                  rw [if_pos (by decide), if_pos (by decide)]
                  omega
    · have HC := Lib.hid hc
      clear hc
      have HRR := Lib.hid (show parseR s = ([], true, (oneF s 125 (oneF s 123 0).2).2) by rw [parseR, HO.out, if_pos rfl, HC.out, if_pos rfl])
      by_cases hj : (oneF s 125 (oneF s 123 0).2).2 < s.size
      · have HE := Lib.hid (show res = ([], ⟨134, (oneF s 125 (oneF s 123 0).2).2⟩) by rw [← HS.out, parseF, HRR.out, if_neg (by simpa using hj)])
        have hjz : decide (((oneF s 125 (oneF s 123 0).2).2 : Int) < (s.size : Int)) = true := decide_eq_true (by omega)
        have hjz2 : decide ((oneF s 125 (oneF s 123 0).2).2 < s.size) = true := decide_eq_true (by omega)
        clear hj
        go_enter Tryz.func15, Tryz.ntmps15
        go_wp2_with fail
        refine (O123.out _ 0 _ HP.out.rd (Nat.zero_le _)).mono ?_
        rintro e w1 ⟨rfl, hr1, hg1⟩
        replace HP := Lib.hid (HP.out.step hr1 hg1)
        clear hr1 hg1
        rw [HO.out]
        go_wp2_with fail
        refine (O125.out _ _ _ HP.out.rd hl1.2).mono ?_
        rintro e w2 ⟨rfl, hr2, hg2⟩
        replace HP := Lib.hid (HP.out.step hr2 hg2)
        clear hr2 hg2
        rw [HC.out]
        have hr1 := HP.out.rd.c1
        go_wp2_with fail
        clear hr1 hjz hjz2 hl1 hl2 HC HO HRR
        generalize hj : (oneF s 125 (oneF s 123 0).2).2 = j at HP HE
        generalize hg : w.heap.size = g at HP ⊢
        generalize hb : g + 1 = b at HP ⊢
        try go_upto_region 13 with (fail)
        have hrd := HP.out.rd
        have hc1 := hrd.c1
        have hx := HP.out.flt
        have hq0 := cell_at hx 0
        have hq1 := cell_at hx 1
        have hqf0 := frz_at hx 0
        have hqf1 := frz_at hx 1
        clear hrd
        have hbg : b ≠ g := Nat.ne_of_gt HP.out.gb
        go_region_held3 (fun w' => w'.cell? ⟨b, 1, none⟩ = some (.int .i64 j))
          (first | exact hc1 | exact cell_far2 hbg hc1 _ _ | (go_keep; done))
          (first | fail)
        go_wp2_with fail
        refine bodyPost_ret (results_tc rfl _ _ g 61 #[.int .i64 134, .int .i64 j] (0, 0) _ rfl (by first | exact set2' hx _ _ | exact set2 hx _ _) Tryz.underlying61 rfl rfl) rfl ?_
        rw [HE.out]
        refine ⟨_, rfl, Kd.R_nil _ _ _ _ _, ?_⟩
        have hbb := HP.out.bel
        have hgw := HP.out.gw
        subst hgw
        first
          | exact ((hbb.setCell (p := ⟨_, 0, none⟩) (Nat.le_refl _) _).setCell (p := ⟨_, 1, none⟩) (Nat.le_refl _) _)
          | exact below_drew1 ((hbb.setCell (p := ⟨_, 0, none⟩) (Nat.le_refl _) _).setCell (p := ⟨_, 1, none⟩) (Nat.le_refl _) _)
      · have HE := Lib.hid (show res = ((setL []).1, ⟨(setL []).2, 0⟩) by rw [← HS.out, parseF, HRR.out, if_pos ⟨rfl, by simpa using hj⟩])
        have hjz : decide (((oneF s 125 (oneF s 123 0).2).2 : Int) < (s.size : Int)) = false := decide_eq_false (by omega)
        have hjz2 : decide ((oneF s 125 (oneF s 123 0).2).2 < s.size) = false := decide_eq_false (by omega)
        clear hj
        go_enter Tryz.func15, Tryz.ntmps15
        go_wp2_with fail
        refine (O123.out _ 0 _ HP.out.rd (Nat.zero_le _)).mono ?_
        rintro e w1 ⟨rfl, hr1, hg1⟩
        replace HP := Lib.hid (HP.out.step hr1 hg1)
        clear hr1 hg1
        rw [HO.out]
        go_wp2_with fail
        refine (O125.out _ _ _ HP.out.rd hl1.2).mono ?_
        rintro e w2 ⟨rfl, hr2, hg2⟩
        replace HP := Lib.hid (HP.out.step hr2 hg2)
        clear hr2 hg2
        rw [HC.out]
        have hr1 := HP.out.rd.c1
        go_upto_region 14 with (fail)
        clear hr1 hjz hjz2 hl1 hl2 HC HO HRR
        have HV := Lib.hid (show Kd.R k130 130 w2 w.heap.size (fun _ => True) (.slice none 0 0) [] from Kd.R_nil _ _ _ _ _)
        have hll : ([] : List S130).length ≤ 1099511627776 := by decide
        generalize hj : (oneF s 125 (oneF s 123 0).2).2 = j at HP
        generalize hg : w.heap.size = g at HP HV ⊢
        generalize hb : g + 1 = b at HP ⊢
        obtain ⟨A, c, hv, hcap, hC⟩ := Kd.R_reads HV.out
        first
          | subst hv
          | (injection hv with ha h0 hc; clear h0; subst ha hc)
        have S1 := Lib.hid (set_calls _ _ [] _ hC hcap hll)
        clear hC hcap
        go_wp2_with fail
        refine S1.out.mono ?_
        rintro e w9 ⟨v9, rfl, hR9, hb9⟩
        have HP9 := Lib.hid (Nat.le_trans (Nat.le_of_eq HP.out.gw.symm) HP.out.bel.size)
        replace HP := Lib.hid (HP.out.below hb9)
        clear hb9
        have hx := HP.out.flt
        have hq0 := cell_at hx 0
        have hq1 := cell_at hx 1
        have hqf0 := frz_at hx 0
        have hqf1 := frz_at hx 1
        have HR9 := Lib.hid hR9
        clear hR9 S1
        go_wp2_with fail
        refine bodyPost_ret (results_tc rfl _ _ g 61 #[.int .i64 (setL []).2, .int .i64 0] (0, 0) _ rfl (by first | exact set2' hx _ _ | exact set2 hx _ _) Tryz.underlying61 rfl rfl) rfl ?_
        rw [HE.out]
        have hbb := HP.out.bel
        have hgw := HP.out.gw
        have hsz := HP9.out
        have hRl := Kd.R_lower HR9.out (base' := g) (by omega)
        have hR1 := Kd.R_set hRl hx (by decide) 0 (.int .i64 (setL []).2)
        have hx1 : (w9.setCell ⟨g, 0, none⟩ (.int .i64 (setL []).2)).heap[g]? = some (.cells #[.int .i64 (setL []).2, .int .i64 0] 61 (0, 0)) := by simp [World.setCell, Array.getElem?_modify, hx]
        have hR2 := Kd.R_set hR1 hx1 (by decide) 1 (.int .i64 0)
        subst hgw
        exact ⟨_, rfl, hR2, ((hbb.setCell (p := ⟨_, 0, none⟩) (Nat.le_refl _) _).setCell (p := ⟨_, 1, none⟩) (Nat.le_refl _) _)⟩
end
end Go.Proofs.YtkanfffbdegfoaaGreatDoor.PD
