/- The contracts of label.first, further, name, order, of slices.IndexFunc and ContainsFunc at labels, of label.Get: what they tell. No condition beyond what each states. The contracts of label.first, further, name, order, Set: what they tell. No condition beyond what each states. The contracts of cmp.Or at two whole numbers, of label.order: what they tell. No condition beyond what each states. slices.SortFunc at labels by label.order: a row of the call's own is sorted. No condition but that it has fewer than 2^47 labels. slices.SortFunc at labels by label.order: a row of the call's own is sorted; nothing else turns. No condition but that it has fewer than 2^46 labels. The contract of label.Set: what it tells of any labels, fewer than 2^40. The contract of label.isSet: whether labels are a set. -/
import Derived.Test.YtkanfffbdegfoaaGreatDoorKA
import Derived.Deep.RegionWith
import Derived.Deep.RegionHeld3
import Derived.BigQuiet
import Derived.Shelf.SlSortCmp.NoneTotal
import Derived.Test.YtkanfffbdegfoaaGreatDoorSort
import Derived.Sort.OwnSorted
import Derived.Laws.Cover1
namespace Go.Proofs.YtkanfffbdegfoaaGreatDoor.PD
set_option linter.unusedVariables false
set_option linter.unusedSimpArgs false
section
open Go.RowKit Go.Proofs.YtkanfffbdegfoaaGreatDoorW.PrintWords Go.Proofs.YtkanfffbdegfoaaGreatDoorW.PrintLast Go.Proofs.YtkanfffbdegfoaaGreatDoorW.PrintMore

theorem at_N {w : World} {A : Option Addr} {xs : List S130} (h : Kd.C k130 w A xs.length xs) (k : Nat) (hk : k < xs.length) : ∃ ad, A = some ad ∧ w.cell? (ad.add (k * 2)) = some (.string xs[k].f0) ∧ w.cell? ⟨(ad.add (k * 2)).block, (ad.add (k * 2)).off + 1, none⟩ = some (.string xs[k].f1) := by
  obtain ⟨ad, e, h0, h1⟩ := at_T130 h (k : Int) (by omega) (by omega)
  have hx : rd_T130 xs (k : Int) = xs[k] := by simp [rd_T130, List.getD_eq_getElem?_getD, List.getElem?_eq_getElem hk]
  rw [hx] at h0 h1
  exact ⟨ad, e, by simpa using h0, by simpa using h1⟩

/-- Where the first that is taken stands, from a place on; -1: none is. -/
def idxF (p : S130 → Bool) : List S130 → Nat → Int
  | [], _ => -1
  | x :: l, k => if p x then k else idxF p l (k + 1)

set_option maxHeartbeats 1000000 in
set_option maxRecDepth 100000 in
theorem indexFunc_calls (g : Nat) (cb : Array Value) (p : S130 → Bool) (A0 : Option Addr) (c0 : Nat) (l0 : List S130) (w : World) (hr0 : Kd.C k130 w A0 l0.length l0) (hlen : l0.length ≤ 140737488355328)
    (he : ∀ (args : Array Value) (w : World), (callFunc g args).run Tryz.prog w = .ok (.enter g args) w)
    (hp : ∀ (x : S130) (W : World), Below w.heap.size w W → Calls Tryz.prog g (#[.agg #[.string x.f0, .string x.f1]] ++ cb) W fun e w' => e = .returned (.bool (p x)) ∧ Below W.heap.size W w') :
    Calls Tryz.prog 144 #[.slice A0 l0.length c0, .func (.func g) #[] cb] w fun e w' => e = .returned (.int .i64 (idxF p l0 0)) ∧ Below w.heap.size w w' := by
  have HP := Lib.hid hp
  have HR := Lib.hid hr0
  clear hp hr0
  go_enter Tryz.func144, Tryz.ntmps144
  go_wp2_with fail
  go_loopw [8] (fun v wr => ∃ k : Nat, v = .int .i64 k ∧ k ≤ l0.length ∧ Hid (idxF p l0 0 = idxF p (l0.drop k) k) ∧ Below w.heap.size w wr) (fun v _ => l0.length - (intOf v).toNat)
  case atStart => exact ⟨0, rfl, by omega, Lib.hid rfl, Below.refl _ _⟩
  case round =>
    obtain ⟨k, rfl, hk, hi, hbw⟩ := hrel
    by_cases hlt : k < l0.length
    · obtain ⟨ad, rfl, h0, h1⟩ := at_N HR.out k hlt
      have h0' := pw_cell_below hbw h0
      have h1' := pw_cell_below hbw h1
      clear h0 h1
      go_wp2_with fail
      refine (HP.out l0[k] wr hbw).mono ?_
      rintro e w1 ⟨rfl, hb1⟩
      have hbw1 := hbw.trans (hb1.mono hbw.size)
      have hdrop : l0.drop k = l0[k] :: l0.drop (k + 1) := List.drop_eq_getElem_cons hlt
      cases hpk : p l0[k]
      · have HK := Lib.hid hpk
        have HDR := Lib.hid hdrop
        clear hpk hdrop
        go_wp2
        go_roundw
        case rel =>
          refine ⟨k + 1, by go_num, by omega, ?_, hbw1⟩
          rw [hi.out, HDR.out, idxF, HK.out]
          exact Lib.hid rfl
        case measure => simp [intOf]; omega
      · have HK := Lib.hid hpk
        have HDR := Lib.hid hdrop
        clear hpk hdrop
        go_wp2
        go_ret
        refine ⟨?_, hbw1⟩
        rw [hi.out, HDR.out, idxF, HK.out]
        rfl
    · go_wp2
      go_ret
      refine ⟨?_, hbw⟩
      rw [hi.out, List.drop_eq_nil_of_le (by omega)]
      rfl
theorem idxF_ge (p : S130 → Bool) (l : List S130) : ∀ k : Nat, -1 ≤ idxF p l k := by
  induction l with
  | nil => intro k; simp [idxF]
  | cons x l ih =>
    intro k
    rw [idxF]
    split
    · omega
    · exact ih _
theorem idxF_any (p : S130 → Bool) (l : List S130) : ∀ k : Nat, decide (0 ≤ idxF p l k) = l.any p := by
  induction l with
  | nil => intro k; simp [idxF]
  | cons x l ih =>
    intro k
    rw [idxF, List.any_cons]
    cases h : p x
    · simpa using ih (k + 1)
    · simp
/-- What stands at the first that is taken. -/
theorem idxF_find (p : S130 → Bool) (l : List S130) : ∀ k : Nat, (l.find? p = none ∧ idxF p l k = -1) ∨ (∃ j : Nat, ∃ h : j < l.length, l.find? p = some l[j] ∧ idxF p l k = (k + j : Nat)) := by
  induction l with
  | nil => intro k; exact Or.inl ⟨rfl, rfl⟩
  | cons x l ih =>
    intro k
    rw [idxF, List.find?_cons]
    cases h : p x
    · rcases ih (k + 1) with ⟨h1, h2⟩ | ⟨j, hj, h1, h2⟩
      · exact Or.inl ⟨h1, by simpa using h2⟩
      · exact Or.inr ⟨j + 1, by simpa using hj, by simpa using h1, by simp; rw [h2]; omega⟩
    · exact Or.inr ⟨0, by simp, rfl, by simp⟩

set_option maxHeartbeats 1000000 in
set_option maxRecDepth 100000 in
theorem containsFunc_calls (g : Nat) (cb : Array Value) (p : S130 → Bool) (A0 : Option Addr) (c0 : Nat) (l0 : List S130) (w : World) (hr0 : Kd.C k130 w A0 l0.length l0) (hlen : l0.length ≤ 140737488355328)
    (he : ∀ (args : Array Value) (w : World), (callFunc g args).run Tryz.prog w = .ok (.enter g args) w)
    (hp : ∀ (x : S130) (W : World), Below w.heap.size w W → Calls Tryz.prog g (#[.agg #[.string x.f0, .string x.f1]] ++ cb) W fun e w' => e = .returned (.bool (p x)) ∧ Below W.heap.size W w') :
    Calls Tryz.prog 98 #[.slice A0 l0.length c0, .func (.func g) #[] cb] w fun e w' => e = .returned (.bool (l0.any p)) ∧ Below w.heap.size w w' := by
  have C := Lib.hid (indexFunc_calls g cb p A0 c0 l0 w hr0 hlen he hp)
  rw [← idxF_any p l0 0]
  clear hp hr0 he
  revert C
  generalize idxF p l0 0 = k
  intro C
  go_enter Tryz.func98, Tryz.ntmps98
  go_wp2_with fail
  refine C.out.mono ?_
  rintro e w1 ⟨rfl, hb1⟩
  go_wp2
  go_ret
  exact ⟨rfl, hb1⟩

set_option maxHeartbeats 1000000 in
set_option maxRecDepth 100000 in
/-- label.Get's function literal: is a label's name that? -/
theorem get1_calls (x : S130) (b : Nat) (nm : ByteArray) (w : World) (hc : w.cell? ⟨b, 0, none⟩ = some (.string nm)) :
    Calls Tryz.prog 145 #[.agg #[.string x.f0, .string x.f1], .pointer (some ⟨b, 0, none⟩)] w fun e w' => e = .returned (.bool (x.f0.toList == nm.toList)) ∧ Below w.heap.size w w' := by
  have hca : ∀ o, (w.alloc o).cell? ⟨b, 0, none⟩ = some (.string nm) := fun o => pw_cell_below ((Below.refl _ w).alloc (Nat.le_refl _) o) hc
  clear hc
  go_enter Tryz.func145, Tryz.ntmps145
  go_wp2
  go_ret
  exact ⟨rfl, (Below.refl _ w).alloc (Nat.le_refl _) _⟩
set_option maxHeartbeats 1000000 in
set_option maxRecDepth 100000 in
theorem set1_calls (x : S130) (b : Nat) (y : S130) (w : World) (hc : w.cell? ⟨b, 0, none⟩ = some (.string y.f0)) :
    Calls Tryz.prog 99 #[.agg #[.string x.f0, .string x.f1], .pointer (some ⟨b, 0, none⟩)] w fun e w' => e = .returned (.bool (y.f0.toList == x.f0.toList)) ∧ Below w.heap.size w w' := by
  have hca : ∀ o, (w.alloc o).cell? ⟨b, 0, none⟩ = some (.string y.f0) := fun o => pw_cell_below ((Below.refl _ w).alloc (Nat.le_refl _) o) hc
  clear hc
  go_enter Tryz.func99, Tryz.ntmps99
  go_wp2
  go_ret
  exact ⟨rfl, (Below.refl _ w).alloc (Nat.le_refl _) _⟩
theorem enter38 : ∀ (args : Array Value) (w : World), (callFunc 145 args).run Tryz.prog w = .ok (.enter 145 args) w := fun args w => by go_simp
theorem enter34 : ∀ (args : Array Value) (w : World), (callFunc 99 args).run Tryz.prog w = .ok (.enter 99 args) w := fun args w => by go_simp

/-- The value of the first label of the name; empty, if there is none. -/
def getL (l : List S130) (nm : ByteArray) : ByteArray := match l.find? (fun x => x.f0.toList == nm.toList) with | some x => x.f1 | none => ⟨#[]⟩
def label_Get.f (l0 : List S130) (a1 : ByteArray) : Option ByteArray := if l0.length ≤ 140737488355328 then some (getL l0 a1) else none

set_option maxHeartbeats 1000000 in
set_option maxRecDepth 100000 in
theorem label_Get.calls (A0 : Option Addr) (c0 : Nat) (l0 : List (S130)) (a1 : ByteArray) (r : ByteArray) (w : World) (hr0 : Kd.C k130 w A0 l0.length l0) (hc0 : l0.length ≤ c0) (h : label_Get.f l0 a1 = some r) :
    Calls Tryz.prog 80 #[.slice A0 l0.length c0, .string a1] w fun e w' => e = .returned (.string r) ∧ Below w.heap.size w w' := by
  rw [label_Get.f] at h
  split at h
  · rename_i hlen
    obtain rfl := Option.some.inj h
    clear h
    have hba : Below w.heap.size w (w.alloc (.cells #[.string a1] 9)) := (Below.refl _ w).alloc (Nat.le_refl _) _
    have C := Lib.hid (indexFunc_calls 145 #[.pointer (some ⟨w.heap.size, 0, none⟩)] (fun x => x.f0.toList == a1.toList) A0 c0 l0 (w.alloc (.cells #[.string a1] 9)) (Kd.C_alloc hr0 _) hlen enter38
      (fun x W hW => get1_calls x w.heap.size a1 W (pw_cell_below hW (by unfold World.cell?; rw [heap_alloc_new]; rfl))))
    rcases idxF_find (fun x => x.f0.toList == a1.toList) l0 0 with ⟨h1, h2⟩ | ⟨j, hj, h1, h2⟩
    · have hg : getL l0 a1 = ⟨#[]⟩ := by rw [getL, h1]
      rw [hg]
      rw [h2] at C
      clear hg h1 h2 hr0
      have HBA := Lib.hid hba
      clear hba
      go_enter Tryz.func80, Tryz.ntmps80
      go_wp2_with fail
      refine C.out.mono ?_
      rintro e w1 ⟨rfl, hb1⟩
      go_wp2
      go_ret
      exact ⟨rfl, HBA.out.trans (hb1.mono HBA.out.size)⟩
    · have hg : getL l0 a1 = l0[j].f1 := by rw [getL, h1]
      rw [hg]
      rw [h2, Nat.zero_add] at C
      clear hg h1 h2
      obtain ⟨ad, rfl, h0, h1⟩ := at_N hr0 j hj
      have H1 := Lib.hid h1
      have HBA := Lib.hid hba
      clear hr0 h0 h1 hba
      go_enter Tryz.func80, Tryz.ntmps80
      go_wp2_with fail
      refine C.out.mono ?_
      rintro e w1 ⟨rfl, hb1⟩
      have hbw := HBA.out.trans (hb1.mono HBA.out.size)
      have h1' := pw_cell_below hbw H1.out
      go_wp2
      go_ret
      exact ⟨rfl, hbw⟩
  · cases h
end
section
open Go.RowKit Go.Proofs.YtkanfffbdegfoaaGreatDoorW.PrintWords Go.Proofs.YtkanfffbdegfoaaGreatDoorW.PrintLast Go.Proofs.YtkanfffbdegfoaaGreatDoorW.PrintMore

def firstB (c : Nat) : Bool := decide (97 ≤ c ∧ c ≤ 122 ∨ 65 ≤ c ∧ c ≤ 90 ∨ c = 95)
def furtherB (c : Nat) : Bool := firstB c || decide (48 ≤ c ∧ c ≤ 57)
theorem ret_bool {a b : Bool} (h : a = b) : Ending.returned (.bool a) = .returned (.bool b) := by rw [h]

set_option maxHeartbeats 1000000 in
theorem first_calls (c : Nat) (w : World) : Calls Tryz.prog 110 #[.int .u8 c] w fun e w' => e = .returned (.bool (firstB c)) ∧ w' = w := by
  generalize hf : firstB c = r
  have HF := Lib.hid hf
  clear hf
  by_cases h1 : (c : Int) ≥ 97
  · by_cases h2 : (c : Int) ≤ 122
    · go_enter Tryz.func110, Tryz.ntmps110
      go_wp2
      go_ret
      exact ⟨ret_bool (by rw [← HF.out, firstB, Bool.eq_iff_iff]; simp; omega), rfl⟩
    · go_enter Tryz.func110, Tryz.ntmps110
      go_wp2
      go_ret
      exact ⟨ret_bool (by rw [← HF.out, firstB, Bool.eq_iff_iff]; simp; omega), rfl⟩
  · by_cases h2 : (c : Int) ≥ 65
    · by_cases h3 : (c : Int) ≤ 90
      · go_enter Tryz.func110, Tryz.ntmps110
        go_wp2
        go_ret
        exact ⟨ret_bool (by rw [← HF.out, firstB, Bool.eq_iff_iff]; simp; omega), rfl⟩
      · go_enter Tryz.func110, Tryz.ntmps110
        go_wp2
        go_ret
        exact ⟨ret_bool (by rw [← HF.out, firstB, Bool.eq_iff_iff]; simp; omega), rfl⟩
    · go_enter Tryz.func110, Tryz.ntmps110
      go_wp2
      go_ret
      exact ⟨ret_bool (by rw [← HF.out, firstB, Bool.eq_iff_iff]; simp; omega), rfl⟩
set_option maxHeartbeats 1000000 in
theorem further_calls (c : Nat) (w : World) : Calls Tryz.prog 111 #[.int .u8 c] w fun e w' => e = .returned (.bool (furtherB c)) ∧ w' = w := by
  have C := Lib.hid (first_calls c)
  have hfu : furtherB c = (firstB c || decide (48 ≤ c ∧ c ≤ 57)) := rfl
  revert C hfu
  generalize furtherB c = r
  generalize firstB c = f1
  intro C hfu
  have HF := Lib.hid hfu
  clear hfu
  cases f1
  · by_cases h1 : (c : Int) ≥ 48
    · go_enter Tryz.func111, Tryz.ntmps111
      go_wp2_with fail
      refine (C.out _).mono ?_
      rintro e w' ⟨rfl, rfl⟩
      go_wp2
      go_ret
      exact ⟨ret_bool (by rw [HF.out, Bool.eq_iff_iff]; simp; omega), rfl⟩
    · go_enter Tryz.func111, Tryz.ntmps111
      go_wp2_with fail
      refine (C.out _).mono ?_
      rintro e w' ⟨rfl, rfl⟩
      go_wp2
      go_ret
      exact ⟨ret_bool (by rw [HF.out, Bool.eq_iff_iff]; simp; omega), rfl⟩
  · go_enter Tryz.func111, Tryz.ntmps111
    go_wp2_with fail
    refine (C.out _).mono ?_
    rintro e w' ⟨rfl, rfl⟩
    go_wp2
    go_ret
    exact ⟨ret_bool (by rw [HF.out]; rfl), rfl⟩

/-- A name, as label.name asks it. -/
def nameB (s : ByteArray) : Bool := decide (1 ≤ s.size ∧ s.size ≤ 64) && (s.data.toList.take 1).all (fun c => firstB c.toNat) && s.data.toList.all (fun c => furtherB c.toNat)
theorem drop_at (s : ByteArray) (k : Nat) (h : k < s.size) : s.data.toList.drop k = s[k] :: s.data.toList.drop (k + 1) := by
  have h' : k < s.data.toList.length := by rw [data_length]; exact h
  rw [List.drop_eq_getElem_cons h']
  rfl

set_option maxHeartbeats 2000000 in
set_option maxRecDepth 100000 in
theorem name_calls (s : ByteArray) (w : World) : Calls Tryz.prog 96 #[.string s] w fun e w' => e = .returned (.bool (nameB s)) ∧ w' = w := by
  have hnb : nameB s = (decide (1 ≤ s.size ∧ s.size ≤ 64) && (s.data.toList.take 1).all (fun c => firstB c.toNat) && s.data.toList.all (fun c => furtherB c.toNat)) := rfl
  revert hnb
  generalize nameB s = R
  intro hnb
  by_cases h0 : (s.size : Int) < 1
  · have HN := Lib.hid (show R = false by rw [hnb]; simp; omega)
    clear hnb
    go_enter Tryz.func96, Tryz.ntmps96
    go_wp2
    go_ret
    exact ⟨ret_bool HN.out.symm, rfl⟩
  · by_cases h64 : (s.size : Int) > 64
    · have HN := Lib.hid (show R = false by rw [hnb]; simp; omega)
      clear hnb
      go_enter Tryz.func96, Tryz.ntmps96
      go_wp2
      go_ret
      exact ⟨ret_bool HN.out.symm, rfl⟩
    · have h0n : 0 < s.size := by omega
      have hd0 := drop_at s 0 h0n
      rw [List.drop_zero] at hd0
      have hdec : decide (1 ≤ s.size ∧ s.size ≤ 64) = true := by simp; omega
      cases hf : firstB s[0].toNat
      · have HN := Lib.hid (show R = false by rw [hnb, hd0]; simp [hf])
        have HF := Lib.hid hf
        clear hnb hf hd0 hdec
        go_enter Tryz.func96, Tryz.ntmps96
        go_wp2_with fail
        refine (first_calls _ _).mono ?_
        rintro e w' ⟨rfl, rfl⟩
        rw [HF.out]
        go_wp2
        go_ret
        exact ⟨ret_bool HN.out.symm, rfl⟩
      · have HN := Lib.hid (show R = s.data.toList.all (fun c => furtherB c.toNat) by rw [hnb, hd0]; rw [hdec]; simp [hf])
        have HF := Lib.hid hf
        clear hnb hf hd0 hdec
        go_enter Tryz.func96, Tryz.ntmps96
        go_wp2_with fail
        refine (first_calls _ _).mono ?_
        rintro e w' ⟨rfl, rfl⟩
        rw [HF.out]
        go_wp2_with fail
        go_loop [20] (fun v => ∃ k : Nat, v = .int .i64 k ∧ k ≤ s.size ∧ Hid (R = (s.data.toList.drop k).all (fun c => furtherB c.toNat))) (fun v => s.size - (intOf v).toNat)
        case atStart => exact ⟨0, rfl, by omega, Lib.hid HN.out⟩
        case round =>
          obtain ⟨k, rfl, hk, hr⟩ := hrel
          by_cases hlt : k < s.size
          · have hdk := drop_at s k hlt
            cases hfk : furtherB s[k].toNat
            · have HK := Lib.hid (show R = false by rw [hr.out, hdk]; simp [hfk])
              have HFK := Lib.hid hfk
              clear hdk hfk
              go_wp2_with fail
              refine (further_calls _ _).mono ?_
              rintro e w1 ⟨rfl, h1w⟩
              subst h1w
              rw [HFK.out]
              go_wp2
              go_ret
              exact ⟨ret_bool HK.out.symm, rfl⟩
            · have HK := Lib.hid (show R = (s.data.toList.drop (k + 1)).all (fun c => furtherB c.toNat) by rw [hr.out, hdk]; simp [hfk])
              have HFK := Lib.hid hfk
              clear hdk hfk
              go_wp2_with fail
              refine (further_calls _ _).mono ?_
              rintro e w1 ⟨rfl, h1w⟩
              subst h1w
              rw [HFK.out]
              go_wp2
              go_round
              case rel => exact ⟨k + 1, by go_num, by omega, Lib.hid HK.out⟩
              case measure => simp [intOf]; omega
          · go_wp2
            go_ret
            refine ⟨ret_bool ?_, rfl⟩
            rw [hr.out, List.drop_eq_nil_of_le (by rw [data_length]; omega)]
            rfl
end
section
open Go.RowKit Go.Proofs.YtkanfffbdegfoaaGreatDoorW.PrintWords Go.Proofs.YtkanfffbdegfoaaGreatDoorW.PrintLast Go.Proofs.YtkanfffbdegfoaaGreatDoorW.PrintMore

def orV (x y : Int) : Int := if x = 0 then y else x
theorem ret_I {k : IntKind} {a b : Int} (h : a = b) : Ending.returned (.int k a) = .returned (.int k b) := by rw [h]
set_option maxHeartbeats 1000000 in
theorem or_calls (b : Nat) (x y : Int) (w : World) (h0 : w.cell? ⟨b, 0, none⟩ = some (.int .i64 x)) (h1 : w.cell? ⟨b, 1, none⟩ = some (.int .i64 y)) :
    Calls Tryz.prog 155 #[.slice (some ⟨b, 0, none⟩) 2 2] w fun e w' => e = .returned (.int .i64 (orV x y)) ∧ w' = w := by
  generalize hr : orV x y = r
  rw [orV] at hr
  have HR := Lib.hid hr
  clear hr
  go_enter Tryz.func155, Tryz.ntmps155
  go_wp2_with fail
  go_loop [8] (fun v => ∃ k : Nat, v = .int .i64 k ∧ k ≤ 2 ∧ Hid (0 < k → x = 0) ∧ Hid (1 < k → y = 0)) (fun v => 2 - (intOf v).toNat)
  case atStart => exact ⟨0, rfl, by omega, Lib.hid (fun h => absurd h (by omega)), Lib.hid (fun h => absurd h (by omega))⟩
  case round =>
    obtain ⟨k, rfl, hk, hx, hy⟩ := hrel
    rcases (show k = 0 ∨ k = 1 ∨ k = 2 by omega) with rfl | rfl | rfl
    · by_cases hx0 : x = 0
      · have t : ((x : Int) != 0) = false := by simp [hx0]
        have HX := Lib.hid hx0
        clear hx0
        go_wp2
        go_round
        case rel => exact ⟨1, by go_num, by omega, Lib.hid (fun _ => HX.out), Lib.hid (fun h => absurd h (by omega))⟩
        case measure => simp [intOf]
      · have t : ((x : Int) != 0) = true := by simp [hx0]
        have HX := Lib.hid hx0
        clear hx0
        go_wp2
        go_ret
        exact ⟨ret_I (by rw [← HR.out, if_neg HX.out]), rfl⟩
    · by_cases hy0 : y = 0
      · have t : ((y : Int) != 0) = false := by simp [hy0]
        have HX := Lib.hid hy0
        clear hy0
        go_wp2
        go_round
        case rel => exact ⟨2, by go_num, by omega, Lib.hid (fun _ => hx.out (by omega)), Lib.hid (fun _ => HX.out)⟩
        case measure => simp [intOf]
      · have t : ((y : Int) != 0) = true := by simp [hy0]
        clear hy0
        go_wp2
        go_ret
        exact ⟨ret_I (by rw [← HR.out, if_pos (hx.out (by omega))]), rfl⟩
    · go_wp2
      go_ret
      exact ⟨ret_I (by rw [← HR.out, if_pos (hx.out (by omega)), hy.out (by omega)]), rfl⟩

/-- Which of two labels stands ahead: names first, then values. -/
def ordL (x y : S130) : Int := orV (Lib.compareBytes x.f0.data.toList y.f0.data.toList) (Lib.compareBytes x.f1.data.toList y.f1.data.toList)
set_option maxHeartbeats 1000000 in
set_option maxRecDepth 100000 in
theorem order_calls (x y : S130) (w : World) : Calls Tryz.prog 101 #[.agg #[.string x.f0, .string x.f1], .agg #[.string y.f0, .string y.f1]] w fun e w' => e = .returned (.int .i64 (ordL x y)) ∧ ∃ q os', w' = Sort.grow (w.drewN q) os' := by
  unfold ordL
  have C1 := Lib.hid (Tryz.strings_Compare x.f0 y.f0)
  have C2 := Lib.hid (Tryz.strings_Compare x.f1 y.f1)
  revert C1 C2
  generalize Lib.compareBytes x.f0.data.toList y.f0.data.toList = a
  generalize Lib.compareBytes x.f1.data.toList y.f1.data.toList = b
  intro C1 C2
  go_enter Tryz.func101, Tryz.ntmps101
  go_wp2_with fail
  go_region_held3 (fun w' => w'.cell? ⟨w.heap.size, 0, none⟩ = some (.string x.f0) ∧ w'.cell? ⟨w.heap.size, 1, none⟩ = some (.string x.f1) ∧ w'.cell? ⟨w.heap.size + 1, 0, none⟩ = some (.string y.f0) ∧ w'.cell? ⟨w.heap.size + 1, 1, none⟩ = some (.string y.f1))
    (first | go_keep | (refine ⟨?_, ?_, ?_, ?_⟩ <;> go_simp))
    (first | (go_at_call 156; (with_reducible refine (C1.out _).mono ?_); rintro e w' ⟨rfl, rfl⟩) | (go_at_call 156; (with_reducible refine (C2.out _).mono ?_); rintro e w' ⟨rfl, rfl⟩) | (go_at_call 155; (with_reducible refine (or_calls _ a b _ (by go_simp) (by go_simp)).mono ?_); rintro e w' ⟨rfl, rfl⟩))
  go_wp2
  go_ret
  exact ⟨rfl, 1, #[.cells #[.string x.f0, .string x.f1] 130, .cells #[.string y.f0, .string y.f1] 130, .cells #[.int .i64 a, .int .i64 b] 3], by rw [Sort.alloc_eq_grow, Sort.alloc_eq_grow, Sort.alloc_eq_grow, Sort.grow_grow, Sort.grow_grow]; rfl⟩
end
section
open Go.RowKit Go.Proofs.YtkanfffbdegfoaaGreatDoorW.PrintWords Go.Proofs.YtkanfffbdegfoaaGreatDoorW.PrintLast Go.Proofs.YtkanfffbdegfoaaGreatDoorW.PrintMore
open Go.Sort

/-! ### byte by byte -/
theorem cb_self : ∀ a : List UInt8, Lib.compareBytes a a = 0
  | [] => rfl
  | x :: a => by rw [Lib.compareBytes, if_neg (UInt8.lt_irrefl x), if_neg (UInt8.lt_irrefl x)]; exact cb_self a
theorem cb_zero : ∀ {a b : List UInt8}, Lib.compareBytes a b = 0 → a = b
  | [], [], _ => rfl
  | [], _ :: _, h => by simp [Lib.compareBytes] at h
  | _ :: _, [], h => by simp [Lib.compareBytes] at h
  | x :: a, y :: b, h => by
    rw [Lib.compareBytes] at h
    split at h
    · cases h
    · split at h
      · cases h
      · rename_i h1 h2
        have : x = y := UInt8.le_antisymm (UInt8.not_lt.1 h2) (UInt8.not_lt.1 h1)
        rw [this, cb_zero h]
theorem cb_vals (a b : List UInt8) : Lib.compareBytes a b = -1 ∨ Lib.compareBytes a b = 0 ∨ Lib.compareBytes a b = 1 := by
  induction a generalizing b with
  | nil => cases b <;> simp [Lib.compareBytes]
  | cons x a ih =>
    cases b with
    | nil => simp [Lib.compareBytes]
    | cons y b =>
      rw [Lib.compareBytes]
      split
      · exact Or.inl rfl
      · split
        · exact Or.inr (Or.inr rfl)
        · exact ih b
theorem cb_neg (a b : List UInt8) : Lib.compareBytes a b = - Lib.compareBytes b a := by
  induction a generalizing b with
  | nil => cases b <;> simp [Lib.compareBytes]
  | cons x a ih =>
    cases b with
    | nil => simp [Lib.compareBytes]
    | cons y b =>
      rw [Lib.compareBytes, Lib.compareBytes]
      by_cases h1 : x < y
      · rw [if_pos h1, if_neg (UInt8.not_lt.2 (UInt8.le_of_lt h1)), if_pos h1]
      · rw [if_neg h1]
        by_cases h2 : y < x
        · rw [if_pos h2, if_pos h2]; rfl
        · rw [if_neg h2, if_neg h2, if_neg h1]
          exact ih b
theorem cb_trans {a b c : List UInt8} (h1 : Lib.compareBytes a b < 0) (h2 : Lib.compareBytes b c < 0) : Lib.compareBytes a c < 0 := by
  induction a generalizing b c with
  | nil =>
    cases c with
    | nil => cases b <;> simp [Lib.compareBytes] at h1 h2
    | cons z c => simp [Lib.compareBytes]
  | cons x a ih =>
    cases b with
    | nil => simp [Lib.compareBytes] at h1
    | cons y b =>
      cases c with
      | nil => simp [Lib.compareBytes] at h2
      | cons z c =>
        rw [Lib.compareBytes] at h1 h2 ⊢
        by_cases xy : x < y
        · by_cases yz : y < z
          · rw [if_pos (UInt8.lt_trans xy yz)]; decide
          · rw [if_neg yz] at h2
            by_cases zy : z < y
            · rw [if_pos zy] at h2; omega
            · have : y = z := UInt8.le_antisymm (UInt8.not_lt.1 zy) (UInt8.not_lt.1 yz)
              rw [← this, if_pos xy]; decide
        · rw [if_neg xy] at h1
          by_cases yx : y < x
          · rw [if_pos yx] at h1; omega
          · have hxy : x = y := UInt8.le_antisymm (UInt8.not_lt.1 yx) (UInt8.not_lt.1 xy)
            rw [if_neg yx] at h1
            subst hxy
            by_cases yz : x < z
            · rw [if_pos yz]; decide
            · rw [if_neg yz] at h2 ⊢
              by_cases zy : z < x
              · rw [if_pos zy] at h2; omega
              · rw [if_neg zy] at h2 ⊢
                exact ih h1 h2

theorem ordL_vals (x y : S130) : ordL x y = -1 ∨ ordL x y = 0 ∨ ordL x y = 1 := by
  unfold ordL orV
  split
  · exact cb_vals _ _
  · exact cb_vals _ _
theorem ordL_lt (x y : S130) : ordL x y < 0 ↔ Lib.compareBytes x.f0.data.toList y.f0.data.toList < 0 ∨ (x.f0.data.toList = y.f0.data.toList ∧ Lib.compareBytes x.f1.data.toList y.f1.data.toList < 0) := by
  unfold ordL orV
  split
  · rename_i h
    constructor
    · exact fun h2 => Or.inr ⟨cb_zero h, h2⟩
    · rintro (h2 | ⟨_, h2⟩)
      · omega
      · exact h2
  · rename_i h
    constructor
    · exact Or.inl
    · rintro (h2 | ⟨h2, _⟩)
      · exact h2
      · rw [h2, cb_self] at h
        exact absurd rfl h
theorem ba_ext {a b : ByteArray} (h : a.data.toList = b.data.toList) : a = b := by
  obtain ⟨⟨a⟩⟩ := a
  obtain ⟨⟨b⟩⟩ := b
  simpa using h
theorem ordL_total (x y : S130) (h1 : ¬ ordL x y < 0) (h2 : ¬ ordL y x < 0) : x = y := by
  rw [ordL_lt] at h1 h2
  have h3 : Lib.compareBytes x.f0.data.toList y.f0.data.toList = 0 := by
    have := cb_neg x.f0.data.toList y.f0.data.toList
    omega
  have e0 := cb_zero h3
  have h4 : Lib.compareBytes x.f1.data.toList y.f1.data.toList = 0 := by
    have := cb_neg x.f1.data.toList y.f1.data.toList
    have a1 : ¬ Lib.compareBytes x.f1.data.toList y.f1.data.toList < 0 := fun h => h1 (Or.inr ⟨e0, h⟩)
    have a2 : ¬ Lib.compareBytes y.f1.data.toList x.f1.data.toList < 0 := fun h => h2 (Or.inr ⟨e0.symm, h⟩)
    omega
  obtain ⟨x0, x1⟩ := x
  obtain ⟨y0, y1⟩ := y
  have e1 := ba_ext e0
  have e2 := ba_ext (cb_zero h4)
  simp only at e1 e2
  rw [e1, e2]
theorem ordL_trans {x y z : S130} (h1 : ordL x y < 0) (h2 : ordL y z < 0) : ordL x z < 0 := by
  rw [ordL_lt] at h1 h2 ⊢
  rcases h1 with h1 | ⟨e1, h1⟩
  · rcases h2 with h2 | ⟨e2, h2⟩
    · exact Or.inl (cb_trans h1 h2)
    · rw [e2] at h1
      exact Or.inl h1
  · rcases h2 with h2 | ⟨e2, h2⟩
    · rw [e1]
      exact Or.inl h2
    · exact Or.inr ⟨e1.trans e2, cb_trans h1 h2⟩
theorem ordL_irrefl (x : S130) : ¬ ordL x x < 0 := by
  rw [ordL_lt]
  rintro (h | ⟨_, h⟩) <;> rw [cb_self] at h <;> omega
end
section
open Go.RowKit Go.Proofs.YtkanfffbdegfoaaGreatDoorW.PrintWords Go.Proofs.YtkanfffbdegfoaaGreatDoorW.PrintLast Go.Proofs.YtkanfffbdegfoaaGreatDoorW.PrintMore
open Go.Sort

instance : Inhabited S130 := ⟨z130⟩
def enc27 (x : S130) : List Value := [.string x.f0, .string x.f1]
def flat27 : List S130 → List Value
  | [] => []
  | x :: l => .string x.f0 :: .string x.f1 :: flat27 l
theorem flat27_len : ∀ l : List S130, (flat27 l).length = l.length * 2
  | [] => rfl
  | x :: l => by rw [flat27, List.length_cons, List.length_cons, flat27_len l, List.length_cons]; omega
theorem reps_flat {R : S130 → List Value → Prop} (hR : ∀ x cs, R x cs → cs = enc27 x) : ∀ (xs : List S130) (inner : List Value), Reps R 2 xs inner → inner = flat27 xs
  | [], inner, h => by
    have := h.1
    simp at this
    rw [this]
    rfl
  | x :: xs, inner, h => by
    have h0 := hR _ _ (h.2 0 x rfl)
    rw [Nat.zero_mul, List.drop_zero] at h0
    have e : inner = inner.take 2 ++ inner.drop 2 := (List.take_append_drop 2 inner).symm
    have hl := h.1
    rw [List.length_cons] at hl
    have hr : Reps R 2 xs (inner.drop 2) := ⟨by rw [List.length_drop]; omega, fun j p hj => by
      have := h.2 (j + 1) p (by simpa using hj)
      rwa [List.drop_drop, show 2 + j * 2 = (j + 1) * 2 by omega]⟩
    rw [h0, reps_flat hR xs _ hr] at e
    rw [e]
    rfl
theorem flat_reps {R : S130 → List Value → Prop} (hR : ∀ x, R x (enc27 x)) : ∀ (xs : List S130), Reps R 2 xs (flat27 xs)
  | [] => ⟨rfl, fun j p h => by simp at h⟩
  | x :: xs => ⟨flat27_len _, fun j p hj => by
      cases j with
      | zero =>
        obtain rfl : x = p := by simpa using hj
        exact hR x
      | succ j =>
        have := (flat_reps hR xs).2 j p (by simpa using hj)
        rw [show (j + 1) * 2 = (j * 2 + 1) + 1 by omega]
        exact this⟩
theorem own27 {w : World} {base : Nat} {ok : Nat → Prop} {v : Value} {xs : List S130} (h : Kd.R k130 130 w base ok v xs) : w.ownsRow base 130 2 v xs.length (flat27 xs) := by
  obtain ⟨_, inner, ho, hr⟩ := h
  rw [← reps_flat (fun x cs hx => k130_openM hx) xs inner hr]
  exact ho
theorem ofOwn27 {w : World} {base : Nat} {ok : Nat → Prop} {v : Value} {xs : List S130} (h : w.ownsRow base 130 2 v xs.length (flat27 xs)) (hk : ∀ k, v.ownBlock = some k → ok k) : Kd.R k130 130 w base ok v xs :=
  ⟨hk, flat27 xs, h, flat_reps (fun x => k130_mkM _ _ _ x) xs⟩
theorem flat27_get : ∀ (l : List S130) (t : Nat), t < l.length * 2 → (flat27 l)[t]? = some ((enc27 l[t / 2]!)[t % 2]!)
  | [], t, h => by simp at h
  | x :: l, 0, _ => rfl
  | x :: l, 1, _ => rfl
  | x :: l, t + 2, h => by
    rw [flat27, List.getElem?_cons_succ, List.getElem?_cons_succ, flat27_get l t (by rw [List.length_cons] at h; omega)]
    rw [show (t + 2) / 2 = t / 2 + 1 by omega, show (t + 2) % 2 = t % 2 by omega]
    rfl
theorem flatK27 (l : List S130) : flatK enc27 2 l.toArray = (flat27 l).toArray := by
  apply Array.ext_getElem?
  intro t
  by_cases ht : t < l.length * 2
  · rw [show (flat27 l).toArray[t]? = (flat27 l)[t]? from by simp, flat27_get l t ht]
    have hs : t < (flatK enc27 2 l.toArray).size := by rw [size_flatK]; simpa using ht
    rw [Array.getElem?_eq_getElem hs]
    have := get_flatK enc27 2 l.toArray t (by simpa using ht)
    rw [getElem!_pos _ t hs] at this
    rw [this]
    simp
  · rw [Array.getElem?_eq_none (by rw [size_flatK]; simpa using ht), Array.getElem?_eq_none (by rw [List.size_toArray, flat27_len]; omega)]

/-! ### the order -/
theorem swoL : SWO (ltOf ordL) where
  irrefl x := decide_eq_false (ordL_irrefl x)
  trans x y z h1 h2 := decide_eq_true (ordL_trans (of_decide_eq_true h1) (of_decide_eq_true h2))
  ntrans x y z h1 h2 := by
    have h1 := of_decide_eq_false h1
    have h2 := of_decide_eq_false h2
    refine decide_eq_false fun h3 => ?_
    by_cases a : ordL y x < 0
    · exact h2 (ordL_trans a h3)
    · obtain rfl := ordL_total x y h1 a
      exact h2 h3
theorem totL (x y : S130) (h1 : ltOf ordL x y = false) (h2 : ltOf ordL y x = false) : x = y := ordL_total x y (of_decide_eq_false h1) (of_decide_eq_false h2)
/-- Labels, sorted. -/
def srtL (l : List S130) : List S130 := l.mergeSort fun x y => !(ltOf ordL) y x
theorem srtL_len (l : List S130) : (srtL l).length = l.length := List.length_mergeSort _
theorem srtL_perm (l : List S130) : (srtL l).Perm l := List.mergeSort_perm _ _

theorem heap_srt {w : World} {g n : Nat} {os : Array Obj} {cur : Array Value} {e : TypeId} {fr : Nat × Nat} (F : Array Value) (hb : w.heap[g]? = some (.cells cur e fr)) :
    (grow (putRow id (Sort.ahead w n) g 0 F) os).heap[g]? = some (.cells (putCells id 0 F cur) e fr) := by
  have hg : g < w.heap.size := (Array.getElem?_eq_some_iff.1 hb).1
  rw [heap_grow_old _ _ (by simpa using hg)]
  simp [putRow, mapBlock, Sort.ahead, Array.getElem?_modify, hb, onCells]
theorem grown_srt {w : World} {g n : Nat} {os : Array Obj} (F : Array Value) : w.grownBy (grow (putRow id (Sort.ahead w n) g 0 F) os) (some g) := by
  refine ⟨rfl, rfl, rfl, by simp, fun k hk hne => ?_⟩
  rw [heap_grow_old _ _ (by simpa using hk)]
  have : g ≠ k := fun e => hne (by rw [e])
  simp [putRow, mapBlock, Sort.ahead, Array.getElem?_modify, this]
theorem take_srt (cur : Array Value) (ts : List Value) (h : ts.length ≤ cur.size) : (putCells id 0 ts.toArray cur).toList.take ts.length = ts := by
  apply List.ext_getElem?
  intro j
  by_cases hj : j < ts.length
  · rw [List.getElem?_take_of_lt hj, Array.getElem?_toList]
    simp [putCells, hj, show j < cur.size by omega]
  · rw [List.getElem?_take_eq_none (by omega), List.getElem?_eq_none (by omega)]

theorem agg27 : ∀ w, (isAgg 130).run Tryz.prog w = .ok true w := Tryz.isAgg130
theorem siz27 : ∀ w, (Go.sizeOf 130).run Tryz.prog w = .ok 2 w := Tryz.sizeOf130
theorem enter36 : ∀ (args : Array Value) (w : World), (callFunc 101 args).run Tryz.prog w = .ok (.enter 101 args) w := fun args w => by go_simp
set_option maxHeartbeats 1000000 in
theorem sort_calls (v : Value) (xs : List S130) (w : World) (base : Nat) (hr : Kd.R k130 130 w base (fun _ => True) v xs) (hlen : xs.length ≤ 140737488355328) :
    Calls Tryz.prog 100 #[v, .func (.func 101) #[] #[]] w fun e w' => e = .returned (.tuple #[]) ∧ Kd.R k130 130 w' base (fun _ => True) v (srtL xs) ∧ w.grownBy w' v.ownBlock := by
  have ho := own27 hr
  rcases ho.2 with ⟨rfl, hn⟩ | ⟨g, cap, cur, rfl, hb, hh, hn, hcap, hsz, htk⟩
  · refine (AnyF.slices_SortFunc_none Tryz.sortL none 0 (.func (.func 101) #[] #[]) w).mono ?_
    rintro e w' ⟨rfl, rfl⟩
    have hx : xs = [] := List.eq_nil_of_length_eq_zero hn
    subst hx
    exact ⟨rfl, by simpa [srtL] using hr, ⟨rfl, rfl, rfl, Nat.le_refl _, fun _ _ _ => rfl⟩⟩
  · have hg : g < w.heap.size := (Array.getElem?_eq_some_iff.1 hh).1
    have hH : HoldsK enc27 2 w g 0 xs.toArray := by
      unfold HoldsK
      rw [flatK27]
      intro j hj
      have hj' : j < (flat27 xs).length := by simpa using hj
      have hj2 : j < xs.length * 2 := by rwa [flat27_len] at hj'
      refine ⟨?_, by simp [World.frozen?, hh]⟩
      have h1 : (cur.toList.take (xs.length * 2))[j]? = (flat27 xs)[j]? := by rw [htk]
      rw [List.getElem?_take_of_lt hj2] at h1
      simp only [World.cell?, hh, Nat.zero_add]
      simp only [Option.isSome_none, Bool.false_eq_true, if_false]
      rw [← Array.getElem?_toList, h1]
      simp [hj']
    have C := AnyQ.slices_SortFunc_total Tryz.sortL 2 agg27 siz27 enc27 (fun _ => rfl) (fun x v hv => by simp [enc27] at hv; rcases hv with rfl | rfl <;> rfl) ordL swoL 101 #[] g 0 cap xs.toArray w enter36
      (fun m os dk hs x y => by
        have := order_calls x y (sortWorldK enc27 2 w g 0 m dk os)
        simpa [enc27] using this) hH hg (by simp; omega) totL
    refine C.mono ?_
    rintro e w' ⟨rfl, n, os, rfl⟩
    have hsz' : (flat27 (srtL xs)).length = xs.length * 2 := by rw [flat27_len, srtL_len]
    have hes : sortWorldK enc27 2 w g 0 n (xs.toArray.toList.mergeSort fun x y => !(ltOf ordL) y x).toArray os = grow (putRow id (Sort.ahead w n) g 0 (flat27 (srtL xs)).toArray) os := by
      unfold sortWorldK putRowK
      rw [flatK27]
      rfl
    rw [hes]
    refine ⟨rfl, ofOwn27 ?_ (fun _ _ => trivial), grown_srt _⟩
    rw [srtL_len]
    refine ⟨hsz', .inr ⟨g, cap, _, rfl, hb, heap_srt _ hh, hn, hcap, by simp [putCells, hsz], ?_⟩⟩
    rw [← hsz']
    exact take_srt cur _ (by rw [hsz', hsz]; exact Nat.mul_le_mul_right 2 hn)
end
section
open Go.RowKit Go.Proofs.YtkanfffbdegfoaaGreatDoorW.PrintWords Go.Proofs.YtkanfffbdegfoaaGreatDoorW.PrintLast Go.Proofs.YtkanfffbdegfoaaGreatDoorW.PrintMore

/-- A value, as label.value asks it. -/
def valB (s : ByteArray) : Bool := okFrom s s.size 0 && decide (s.size ≤ 256)
theorem val_calls (s : ByteArray) (w : World) : Calls Tryz.prog 97 #[.string s] w fun e w' => e = .returned (.bool (valB s)) ∧ Below w.heap.size w w' := label_value.calls s _ w rfl
/-- The first thing that is wrong with labels, behind some; 0: nothing is. -/
def setE : List S130 → List S130 → Int
  | _, [] => 0
  | pre, x :: l => if nameB x.f0 = false then 130 else if valB x.f1 = false then 131 else if pre.any (fun y => x.f0.toList == y.f0.toList) = true then 132 else setE (pre ++ [x]) l
def full (l : List S130) : List S130 := l.filter (fun x => x.f1.size != 0)
/-- label.Set: the labels and the error's number. -/
def setL (l : List S130) : List S130 × Int := if setE [] l ≠ 0 then ([], setE [] l) else if 16 < (full l).length then ([], 133) else (srtL (full l), 0)
theorem setE_at (l : List S130) (k : Nat) (h : k < l.length) : setE (l.take k) (l.drop k) = if nameB l[k].f0 = false then 130 else if valB l[k].f1 = false then 131 else if (l.take k).any (fun y => l[k].f0.toList == y.f0.toList) = true then 132 else setE (l.take (k + 1)) (l.drop (k + 1)) := by
  rw [List.drop_eq_getElem_cons h, setE, List.take_succ_eq_append_getElem h]
theorem full_at (l : List S130) (k : Nat) (h : k < l.length) : full (l.take (k + 1)) = full (l.take k) ++ (if l[k].f1.size = 0 then [] else [l[k]]) := by
  rw [List.take_succ_eq_append_getElem h, full, List.filter_append, full]
  congr 1
  by_cases hz : l[k].f1.size = 0 <;> simp [hz]
theorem full_le (l : List S130) : (full l).length ≤ l.length := List.length_filter_le _ _

theorem cut22 (A : Option Addr) (n c j : Nat) (hj : j ≤ n) (hc : n ≤ c) : ∀ W, (Instr.slice 59 (.slice A n c) none (some (.int .i64 (j : Int))) none).run Tryz.prog W = .ok (.slice A j c) W := by
  obtain ⟨i, hi, _⟩ := Option.map_eq_some_iff.1 info130
  intro W
  have := cut_to 59 130 .i64 Tryz.underlying59 hi A n c (j : Int) (by omega) (by omega) hc W
  simpa using this

theorem isEmpty_yes (s : ByteArray) (h : s.size = 0) : (s.toList == []) = true := by
  rw [ByteArray.toList_eq, List.eq_nil_of_length_eq_zero (l := s.data.toList) (by rw [data_length]; exact h)]
  rfl
theorem isEmpty_no (s : ByteArray) (h : ¬ s.size = 0) : (s.toList == []) = false := by
  rw [ByteArray.toList_eq, beq_eq_false_iff_ne]
  intro e
  have := data_length s
  rw [e] at this
  exact h this.symm
set_option maxHeartbeats 4000000 in
set_option maxRecDepth 100000 in
theorem set_calls (A0 : Option Addr) (c0 : Nat) (l : List S130) (w : World) (hr0 : Kd.C k130 w A0 l.length l) (hc0 : l.length ≤ c0) (hlen : l.length ≤ 1099511627776) :
    Calls Tryz.prog 51 #[.slice A0 l.length c0] w fun e w' => ∃ v, e = .returned (.tuple #[v, .int .i64 (setL l).2]) ∧ Kd.R k130 130 w' w.heap.size (fun _ => True) v (setL l).1 ∧ Below w.heap.size w w' := by
  have HR := Lib.hid hr0
  have HC := Lib.hid hc0
  clear hr0 hc0
  generalize hres : setL l = res
  have HS := Lib.hid hres
  clear hres
  go_enter Tryz.func51, Tryz.ntmps51
  go_wp2_with fail
  go_loopw [4, 9] (fun v4 v9 wr => ∃ k : Nat, v9 = .int .i64 k ∧ k ≤ l.length ∧ Hid (setE [] l = setE (l.take k) (l.drop k)) ∧ Hid (Kd.R k130 130 wr w.heap.size (fun _ => True) v4 (full (l.take k))) ∧ Below w.heap.size w wr) (fun _ v _ => l.length - (intOf v).toNat)
  case atStart => exact ⟨0, rfl, by omega, Lib.hid rfl, Lib.hid (Kd.R_nil _ _ _ _ _), Below.refl _ _⟩
  case round =>
    obtain ⟨k, rfl, hk, he, hR, hbw⟩ := hrel
    by_cases hlt : k < l.length
    · obtain ⟨ad, rfl, h0, h1⟩ := at_N HR.out k hlt
      have h0' := pw_cell_below hbw h0
      have h1' := pw_cell_below hbw h1
      clear h0 h1
      have hel := setE_at l k hlt
      have hful := full_at l k hlt
      go_wp2_with fail
      refine (name_calls _ _).mono ?_
      rintro e w1 ⟨rfl, h1w⟩
      subst h1w
      cases hn : nameB l[k].f0
      · have HE := Lib.hid (show res = ([], 130) by rw [← HS.out, setL, he.out, hel, if_pos hn]; simp)
        clear hel hful hn h0' h1'
        go_wp2
        go_ret2
        rw [HE.out]
        exact ⟨_, rfl, Kd.R_nil _ _ _ _ _, hbw.alloc hbw.size _⟩
      · rw [if_neg (by rw [hn]; decide)] at hel
        have HN := Lib.hid hn
        clear hn
        have hba := hbw.alloc hbw.size (.cells #[.string l[k].f0, .string l[k].f1] 130)
        have hbox : (wr.alloc (.cells #[.string l[k].f0, .string l[k].f1] 130)).cell? ⟨wr.heap.size, 0, none⟩ = some (.string l[k].f0) := by unfold World.cell?; rw [heap_alloc_new]; rfl
        have hbox1 : (wr.alloc (.cells #[.string l[k].f0, .string l[k].f1] 130)).cell? ⟨wr.heap.size, 1, none⟩ = some (.string l[k].f1) := by unfold World.cell?; rw [heap_alloc_new]; rfl
        have hRa := Lib.hid (Kd.R_alloc hR.out (.cells #[.string l[k].f0, .string l[k].f1] 130))
        clear hR
        generalize hwa : wr.alloc (.cells #[.string l[k].f0, .string l[k].f1] 130) = wa at *
        generalize hg : wr.heap.size = g at *
        have HG := Lib.hid (show g < wa.heap.size by rw [← hwa, ← hg]; simp)
        clear hwa hg hbw
        go_wp2_with fail
        refine (val_calls _ _).mono ?_
        rintro e w2 ⟨rfl, hb2⟩
        have hbw2 := hba.trans (hb2.mono hba.size)
        have hbox2 := pw_cell_below hb2 hbox
        have hbox12 := pw_cell_below hb2 hbox1
        have hR2 := Lib.hid (Kd.R_below hRa.out hb2)
        clear hba hb2 hbox hbox1 hRa
        cases hv : valB l[k].f1
        · have HE := Lib.hid (show res = ([], 131) by rw [← HS.out, setL, he.out, hel, if_pos hv]; simp)
          clear hel hful hv h0' h1'
          go_wp2
          go_ret2
          rw [HE.out]
          exact ⟨_, rfl, Kd.R_nil _ _ _ _ _, hbw2⟩
        · rw [if_neg (by rw [hv]; decide)] at hel
          have HV := Lib.hid hv
          clear hv
          have hcut := cut22 (some ad) l.length c0 k hk HC.out
          have hlt' : (l.take k).length = k := by rw [List.length_take]; omega
          have C := containsFunc_calls 99 #[.pointer (some ⟨g, 0, none⟩)] (fun y => l[k].f0.toList == y.f0.toList) (some ad) c0 (l.take k) w2 (Kd.C_below (Kd.C_take HR.out hk) hbw2) (by rw [hlt']; omega) enter34
            (fun x W hW => set1_calls x g l[k] W (pw_cell_below hW hbox2))
          rw [hlt'] at C
          have HC2 := Lib.hid C
          clear C
          go_wp2_with fail
          refine HC2.out.mono ?_
          rintro e w3 ⟨rfl, hb3⟩
          clear hcut HC2
          have hbw3 := hbw2.trans (hb3.mono hbw2.size)
          have hbox3 := pw_cell_below hb3 hbox2
          have hbox13 := pw_cell_below hb3 hbox12
          have hR3 := Lib.hid (Kd.R_below hR2.out hb3)
          clear hbw2 hb3 hbox2 hbox12 hR2 h0' h1'
          cases ha : (l.take k).any (fun y => l[k].f0.toList == y.f0.toList)
          · rw [if_neg (by rw [ha]; decide)] at hel
            have HEL := Lib.hid hel
            clear hel ha
            by_cases hz : l[k].f1.size = 0
            · have hz1 : (l[k].f1.toList == []) = true := isEmpty_yes _ hz
              rw [if_pos hz, List.append_nil] at hful
              have HF := Lib.hid hful
              clear hful hz
              go_wp2_with fail
              go_roundw
              case rel => exact ⟨k + 1, by go_num, by omega, Lib.hid (by rw [he.out, HEL.out]), Lib.hid (by rw [HF.out]; exact hR3.out), hbw3⟩
              case measure => simp [intOf]; omega
            · have hz1 : (l[k].f1.toList == []) = false := isEmpty_no _ hz
              rw [if_neg hz] at hful
              have HF := Lib.hid hful
              clear hful hz
              have hfl := full_le (l.take k)
              go_wp2_with (at_builtin; refine Kd.R_append k130 (w0 := w) w.heap.size rfl (.tmp 33) (.tmp 35) 59 130 (.agg #[(.string ⟨#[]⟩), (.string ⟨#[]⟩)]) 32 rfl Tryz.underlying59 info130 rfl (by decide) (by omega) u4 (full (l.take k)) l[k] [.string l[k].f0, .string l[k].f1] (fun _ => True) (fun _ => False) rfl rfl ?aP (fun _ hk => hk.elim) (fun _ _ => trivial) hR3.out hbw3 hbw3.size ?aL ?_; (case aP => exact k130_mkM _ _ _ _); (case aL => omega); rintro v5 w5 ho hb hg hat)
              go_roundw
              case rel => exact ⟨k + 1, by go_num, by omega, Lib.hid (by rw [he.out, HEL.out]), Lib.hid (by rw [HF.out]; exact ho), hb⟩
              case measure => simp [intOf]; omega
          · have HE := Lib.hid (show res = ([], 132) by rw [← HS.out, setL, he.out, hel, if_pos ha]; simp)
            clear hel hful ha
            go_wp2
            go_ret2
            rw [HE.out]
            exact ⟨_, rfl, Kd.R_nil _ _ _ _ _, hbw3⟩
    · obtain ⟨A, c, rfl⟩ := Kd.R_slice hR.out
      have htk : l.take k = l := List.take_of_length_le (by omega)
      rw [htk] at hR
      have h0s : setE [] l = 0 := by rw [he.out, List.drop_eq_nil_of_le (by omega), setE]
      have H0 := Lib.hid h0s
      rw [htk]
      clear he h0s htk
      have hl0 := full_le l
      have C := sort_calls _ _ wr _ hR.out (by omega)
      have HC2 := Lib.hid C
      clear C
      go_wp2_with fail
      · rename_i hgt
        have HE := Lib.hid (show res = ([], 133) by rw [← HS.out, setL, H0.out, if_neg (by decide), if_pos (by omega)])
        go_ret2
        rw [HE.out]
        exact ⟨_, rfl, Kd.R_nil _ _ _ _ _, hbw⟩
      · rename_i hgt
        have HE := Lib.hid (show res = (srtL (full l), 0) by rw [← HS.out, setL, H0.out, if_neg (by decide), if_neg (by omega)])
        refine HC2.out.mono ?_
        rintro e w4 ⟨rfl, hR4, hg4⟩
        go_wp2
        go_ret2
        rw [HE.out]
        exact ⟨_, rfl, hR4, hbw.grown hg4 hbw.size (fun j hj => by obtain ⟨_, ho⟩ := Kd.R_own hR.out; exact own_base ho j hj)⟩
end
section
open Go.RowKit Go.Proofs.YtkanfffbdegfoaaGreatDoorW.PrintWords Go.Proofs.YtkanfffbdegfoaaGreatDoorW.PrintLast Go.Proofs.YtkanfffbdegfoaaGreatDoorW.PrintMore

/-! ### a region that draws, whose operations read and whose callees keep what lies below: one walk -/
structure BelowAt (B : Nat) (w : World) where
  u : World
  h : Below B w u
instance (B : Nat) (w : World) : Inhabited (BelowAt B w) := ⟨⟨w, Below.refl _ _⟩⟩
theorem wp_region_quiet_below {P : Program} {id : Nat} {Q : Exit → Act → World → Prop} {a : Act} {w : World} {l : List Oper} (B : Nat) (wa : World) (hm : P.follows .mixedOrders = true) (hB : Region.lexB .any l.toArray = true) (h0 : Below B wa w)
    (h : wpQuiet P l.toArray (fun w' => ∃ p : BelowAt B wa, w' = p.u) (fun a' => ∀ w', (∃ p : BelowAt B wa, w' = p.u) → Q .normal a' w') l a) : (Code.region id l.toArray true).wp P Q a w :=
  wp_region_quiet (C := fun w' => ∃ p : BelowAt B wa, w' = p.u) hm hB ⟨⟨w.drew, h0.drew⟩, rfl⟩ (by simpa using h)
theorem calls_below_of {P : Program} {f : FuncId} {args : Array Value} {B : Nat} {wa : World} {p : BelowAt B wa} {v : Value} (hB : B ≤ wa.heap.size) (h : Calls P f args p.u fun e w' => e = .returned v ∧ Below p.u.heap.size p.u w') :
    Calls P f args p.u fun e w'' => e = .returned v ∧ ∃ p' : BelowAt B wa, w'' = p'.u :=
  h.mono fun _ w' ⟨he, hb⟩ => ⟨he, ⟨⟨w', p.h.trans (hb.mono (Nat.le_trans hB p.h.size))⟩, rfl⟩⟩
theorem calls_below_same {P : Program} {f : FuncId} {args : Array Value} {B : Nat} {wa : World} {p : BelowAt B wa} {v : Value} (h : Calls P f args p.u fun e w' => e = .returned v ∧ w' = p.u) :
    Calls P f args p.u fun e w'' => e = .returned v ∧ ∃ p' : BelowAt B wa, w'' = p'.u :=
  h.mono fun _ _ ⟨he, hb⟩ => ⟨he, ⟨p, hb⟩⟩

/-- May a label stand in a set, as it is? -/
def goodL (x : S130) : Bool := nameB x.f0 && valB x.f1 && x.f1.size != 0
/-- Does each one's name stand ahead of the next one's? -/
def ascL : List S130 → Bool
  | x :: y :: l => decide (Lib.compareBytes x.f0.data.toList y.f0.data.toList < 0) && ascL (y :: l)
  | _ => true
def isSetL (l : List S130) : Bool := decide (l.length ≤ 16) && l.all goodL && ascL l

theorem bl_eq : ∀ a b : List UInt8, Op.bytesLess a b = decide (Lib.compareBytes a b < 0)
  | [], [] => rfl
  | [], _ :: _ => rfl
  | _ :: _, [] => rfl
  | x :: a, y :: b => by
    rw [Op.bytesLess, Lib.compareBytes, bl_eq a b]
    by_cases h1 : x < y
    · simp [h1]
    · rw [if_neg h1]
      by_cases h2 : y < x
      · have : ¬ x = y := fun e => by rw [e] at h2; exact UInt8.lt_irrefl _ h2
        simp [h1, h2, this]
      · have : x = y := UInt8.le_antisymm (UInt8.not_lt.1 h2) (UInt8.not_lt.1 h1)
        simp [this]
theorem bl_data (a b : ByteArray) : Op.bytesLess a.toList b.toList = decide (Lib.compareBytes a.data.toList b.data.toList < 0) := by rw [ByteArray.toList_eq, ByteArray.toList_eq, bl_eq]
theorem ascL_at : ∀ (l : List S130), ascL l = true ↔ ∀ j (h : j + 1 < l.length), Lib.compareBytes l[j].f0.data.toList l[j + 1].f0.data.toList < 0
  | [] => by simp [ascL]
  | [x] => by simp [ascL]
  | x :: y :: l => by
    rw [ascL, Bool.and_eq_true, decide_eq_true_iff, ascL_at (y :: l)]
    constructor
    · rintro ⟨h1, h2⟩ j h
      cases j with
      | zero => exact h1
      | succ j => exact h2 j (by simpa using h)
    · intro h
      exact ⟨h 0 (by simp), fun j hj => h (j + 1) (by simpa using hj)⟩
theorem isSet_back (l : List S130) (j : Nat) (h : j + 1 < l.length) (hb : ¬ Lib.compareBytes l[j].f0.data.toList l[j + 1].f0.data.toList < 0) : isSetL l = false := by
  have : ascL l = false := by
    rw [← Bool.not_eq_true, ascL_at]
    exact fun hh => hb (hh j h)
  rw [isSetL, this, Bool.and_false]
theorem isSet_bad (l : List S130) (k : Nat) (h : k < l.length) (hb : goodL l[k] = false) : isSetL l = false := by
  have : l.all goodL = false := by
    rw [List.all_eq_false]
    exact ⟨l[k], List.getElem_mem h, by rw [hb]; decide⟩
  rw [isSetL, this, Bool.and_false, Bool.false_and]
set_option maxHeartbeats 4000000 in
set_option maxRecDepth 100000 in
theorem isSet_calls (A0 : Option Addr) (c0 : Nat) (l : List S130) (w : World) (hr0 : Kd.C k130 w A0 l.length l) (hlen : l.length ≤ 1099511627776) :
    Calls Tryz.prog 75 #[.slice A0 l.length c0] w fun e w' => e = .returned (.bool (isSetL l)) ∧ Below w.heap.size w w' := by
  have HR := Lib.hid hr0
  clear hr0
  generalize hres : isSetL l = res
  have HS := Lib.hid hres
  clear hres
  by_cases h16 : (l.length : Int) > 16
  · have HE := Lib.hid (show res = false by rw [← HS.out, isSetL, decide_eq_false (by omega)]; rfl)
    go_enter Tryz.func75, Tryz.ntmps75
    go_wp2
    go_ret
    exact ⟨ret_bool HE.out.symm, Below.refl _ _⟩
  · go_enter Tryz.func75, Tryz.ntmps75
    go_wp2_with fail
    go_loopw [10] (fun v wr => ∃ k : Nat, v = .int .i64 k ∧ k ≤ l.length ∧ Hid (∀ j (h : j < l.length), j < k → goodL l[j] = true) ∧ Hid (∀ j (h : j + 1 < l.length), j + 1 < k → Lib.compareBytes l[j].f0.data.toList l[j + 1].f0.data.toList < 0) ∧ Below w.heap.size w wr) (fun v _ => l.length - (intOf v).toNat)
    case atStart => exact ⟨0, rfl, by omega, Lib.hid (fun j _ h => absurd h (by omega)), Lib.hid (fun j _ h => absurd h (by omega)), Below.refl _ _⟩
    case round =>
      obtain ⟨k, rfl, hk, hgd, has, hbw⟩ := hrel
      by_cases hlt : k < l.length
      · obtain ⟨ad, rfl, h0, h1⟩ := at_N HR.out k hlt
        have h0' := pw_cell_below hbw h0
        have h1' := pw_cell_below hbw h1
        clear h0 h1
        go_upto_region 6 with (fail)
        have hbox : (wr.alloc (.cells #[.string l[k].f0, .string l[k].f1] 130)).cell? ⟨wr.heap.size, 0, none⟩ = some (.string l[k].f0) := by unfold World.cell?; rw [heap_alloc_new]; rfl
        have hbox1 : (wr.alloc (.cells #[.string l[k].f0, .string l[k].f1] 130)).cell? ⟨wr.heap.size, 1, none⟩ = some (.string l[k].f1) := by unfold World.cell?; rw [heap_alloc_new]; rfl
        have hba := hbw.alloc hbw.size (.cells #[.string l[k].f0, .string l[k].f1] 130)
        generalize hwa : wr.alloc (.cells #[.string l[k].f0, .string l[k].f1] 130) = wa at *
        generalize hg : wr.heap.size = g at *
        clear hwa hg h0' h1'
        have N1 := Lib.hid (name_calls l[k].f0)
        have V1 := Lib.hid (val_calls l[k].f1)
        have hs := hba.size
        have L0 : ∀ p : BelowAt wa.heap.size wa, p.u.cell? ⟨g, 0, none⟩ = some (.string l[k].f0) := fun p => pw_cell_below p.h hbox
        have L1 : ∀ p : BelowAt wa.heap.size wa, p.u.cell? ⟨g, 1, none⟩ = some (.string l[k].f1) := fun p => pw_cell_below p.h hbox1
        cases hn : nameB l[k].f0
        · have HE := Lib.hid (show res = false by rw [← HS.out]; exact isSet_bad l k hlt (by rw [goodL, hn]; rfl))
          rw [hn] at N1
          clear hn
          refine wp_region_quiet_below wa.heap.size wa (by kernel_rfl) (by kernel_rfl) (Below.refl _ _) ?_
          repeat go_big_quiet_step (first | (go_at_call 96; exact calls_below_same (N1.out _)) | (go_at_call 97; exact calls_below_of (Nat.le_refl _) (V1.out _)))
          refine wpQuiet_nil ?_
          rintro _ ⟨⟨wq, hbq⟩, rfl⟩
          go_wp2
          go_ret
          exact ⟨ret_bool HE.out.symm, hba.trans (hbq.mono hs)⟩
        · rw [hn] at N1
          cases hv : valB l[k].f1
          · have HE := Lib.hid (show res = false by rw [← HS.out]; exact isSet_bad l k hlt (by rw [goodL, hv, Bool.and_false]; rfl))
            rw [hv] at V1
            clear hn hv
            refine wp_region_quiet_below wa.heap.size wa (by kernel_rfl) (by kernel_rfl) (Below.refl _ _) ?_
            repeat go_big_quiet_step (first | (go_at_call 96; exact calls_below_same (N1.out _)) | (go_at_call 97; exact calls_below_of (Nat.le_refl _) (V1.out _)))
            refine wpQuiet_nil ?_
            rintro _ ⟨⟨wq, hbq⟩, rfl⟩
            go_wp2
            go_ret
            exact ⟨ret_bool HE.out.symm, hba.trans (hbq.mono hs)⟩
          · rw [hv] at V1
            by_cases hz : l[k].f1.size = 0
            · have hz1 : (l[k].f1.toList == []) = true := isEmpty_yes _ hz
              have HE := Lib.hid (show res = false by rw [← HS.out]; exact isSet_bad l k hlt (by rw [goodL, hz]; simp))
              clear hn hv hz
              refine wp_region_quiet_below wa.heap.size wa (by kernel_rfl) (by kernel_rfl) (Below.refl _ _) ?_
              repeat go_big_quiet_step (first | (go_at_call 96; exact calls_below_same (N1.out _)) | (go_at_call 97; exact calls_below_of (Nat.le_refl _) (V1.out _)))
              refine wpQuiet_nil ?_
              rintro _ ⟨⟨wq, hbq⟩, rfl⟩
              go_wp2
              go_ret
              exact ⟨ret_bool HE.out.symm, hba.trans (hbq.mono hs)⟩
            · have hz1 : (l[k].f1.toList == []) = false := isEmpty_no _ hz
              have HG2 := Lib.hid (show ∀ j (h : j < l.length), j < k + 1 → goodL l[j] = true from fun j h hj => by
                rcases Nat.lt_succ_iff_lt_or_eq.1 hj with hj | rfl
                · exact hgd.out j h hj
                · rw [goodL, hn, hv]; simpa using hz)
              clear hn hv hz
              by_cases hk0 : k = 0
              · have HA2 := Lib.hid (show ∀ j (h : j + 1 < l.length), j + 1 < k + 1 → Lib.compareBytes l[j].f0.data.toList l[j + 1].f0.data.toList < 0 from fun j h hj => absurd hj (by omega))
                have hkd : decide (0 < (k : Int)) = false := decide_eq_false (by omega)
                have hkd2 : decide (0 < k) = false := decide_eq_false (by omega)
                clear hk0
                refine wp_region_quiet_below wa.heap.size wa (by kernel_rfl) (by kernel_rfl) (Below.refl _ _) ?_
                repeat go_big_quiet_step (first | (go_at_call 96; exact calls_below_same (N1.out _)) | (go_at_call 97; exact calls_below_of (Nat.le_refl _) (V1.out _)))
                refine wpQuiet_nil ?_
                rintro _ ⟨⟨wq, hbq⟩, rfl⟩
                go_wp2
                go_roundw
                case rel => exact ⟨k + 1, by go_num, by omega, Lib.hid HG2.out, Lib.hid HA2.out, hba.trans (hbq.mono hs)⟩
                case measure => simp [intOf]; omega
              · have hkd : decide (0 < (k : Int)) = true := decide_eq_true (by omega)
                have hkd2 : decide (0 < k) = true := decide_eq_true (by omega)
                obtain ⟨ad', e1, h0p, h1p⟩ := at_N HR.out (k - 1) (by omega)
                cases e1
                have h0q := pw_cell_below hba h0p
                clear h0p h1p
                have LP : ∀ p : BelowAt wa.heap.size wa, p.u.cell? (ad.add ((k - 1) * 2)) = some (.string l[k - 1].f0) := fun p => pw_cell_below p.h h0q
                have hwr : IntKind.i64.wrap ((k : Int) - 1) = ((k - 1 : Nat) : Int) := by rw [IntKind.wrap_i64]; omega
                have hk1 : (0 : Int) ≤ ((k - 1 : Nat) : Int) := by omega
                have hk2 : ((k - 1 : Nat) : Int) < (l.length : Int) := by omega
                cases hbl : Op.bytesLess l[k - 1].f0.toList l[k].f0.toList
                · have HE := Lib.hid (show res = false by
                    rw [← HS.out]
                    rw [bl_data] at hbl
                    refine isSet_back l (k - 1) (by omega) ?_
                    have e : k - 1 + 1 = k := by omega
                    simpa [e] using hbl)
                  clear hk0
                  refine wp_region_quiet_below wa.heap.size wa (by kernel_rfl) (by kernel_rfl) (Below.refl _ _) ?_
                  repeat go_big_quiet_step (first | (go_at_call 96; exact calls_below_same (N1.out _)) | (go_at_call 97; exact calls_below_of (Nat.le_refl _) (V1.out _)))
                  refine wpQuiet_nil ?_
                  rintro _ ⟨⟨wq, hbq⟩, rfl⟩
                  go_wp2
                  go_ret
                  exact ⟨ret_bool HE.out.symm, hba.trans (hbq.mono hs)⟩
                · have HA2 := Lib.hid (show ∀ j (h : j + 1 < l.length), j + 1 < k + 1 → Lib.compareBytes l[j].f0.data.toList l[j + 1].f0.data.toList < 0 from fun j h hj => by
                    by_cases hjk : j + 1 < k
                    · exact has.out j h hjk
                    · have e : j = k - 1 := by omega
                      subst e
                      rw [bl_data] at hbl
                      have e : k - 1 + 1 = k := by omega
                      simpa [e] using hbl)
                  clear hk0
                  refine wp_region_quiet_below wa.heap.size wa (by kernel_rfl) (by kernel_rfl) (Below.refl _ _) ?_
                  repeat go_big_quiet_step (first | (go_at_call 96; exact calls_below_same (N1.out _)) | (go_at_call 97; exact calls_below_of (Nat.le_refl _) (V1.out _)))
                  refine wpQuiet_nil ?_
                  rintro _ ⟨⟨wq, hbq⟩, rfl⟩
                  go_wp2
                  go_roundw
                  case rel => exact ⟨k + 1, by go_num, by omega, Lib.hid HG2.out, Lib.hid HA2.out, hba.trans (hbq.mono hs)⟩
                  case measure => simp [intOf]; omega
      · have HE := Lib.hid (show res = true by
          rw [← HS.out, isSetL, decide_eq_true (by omega), (ascL_at l).2 (fun j h => has.out j h (by omega)), (List.all_eq_true).2 (fun x hx => by
            obtain ⟨j, h, rfl⟩ := List.getElem_of_mem hx
            exact hgd.out j h (by omega))]
          rfl)
        go_wp2
        go_ret
        exact ⟨ret_bool HE.out.symm, hbw⟩
end
end Go.Proofs.YtkanfffbdegfoaaGreatDoor.PD
