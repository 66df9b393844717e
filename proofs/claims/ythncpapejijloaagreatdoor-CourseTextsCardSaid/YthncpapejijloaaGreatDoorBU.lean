/- Walks of the reference: measures written. -/
import Derived.Test.YthncpapejijloaaGreatDoorProg
import Derived.WalkKit
import Derived.WalkLawsBesides
import Derived.WalkSpells
import Derived.Handy
import Derived.Lib.Hide
import Derived.Great.BuildSlice
import Derived.Deep.QuietTactic
import Derived.BigQuiet
import Derived.Deep.RegionHeld3
import Derived.Deep.DeepCutAuto
import Derived.Test.YthncpapejijloaaGreatDoorBT
namespace Go.Proofs.YthncpapejijloaaGreatDoor
open Go.RowKit

def encI (x : Int) : List Value := [.int .i64 x]
def encS (x : ByteArray) : List Value := [.string x]
abbrev IntsS := @Seg Int encI 1
abbrev StrsS := @Seg ByteArray encS 1
theorem IntsS.at1 {w : World} {B : Nat} {A : Option Addr} {l : List Int} (h : IntsS w B A l) {k : Nat} (hk : k < l.length) : ∃ b off, A = some ⟨b, off, none⟩ ∧ b < B ∧ w.cell? ⟨b, off + k, none⟩ = some (.int .i64 l[k]) := by
  obtain ⟨b, off, hA, hb, hc⟩ := Seg.at_ h hk
  exact ⟨b, off, hA, hb, by simpa [encI] using hc 0 _ rfl⟩
theorem StrsS.at1 {w : World} {B : Nat} {A : Option Addr} {l : List ByteArray} (h : StrsS w B A l) {k : Nat} (hk : k < l.length) : ∃ b off, A = some ⟨b, off, none⟩ ∧ b < B ∧ w.cell? ⟨b, off + k, none⟩ = some (.string l[k]) := by
  obtain ⟨b, off, hA, hb, hc⟩ := Seg.at_ h hk
  exact ⟨b, off, hA, hb, by simpa [encS] using hc 0 _ rfl⟩
theorem measGo_drop {out : List UInt8} {c : Int} {us : List Pl.Unit} {k : Nat} (hk : k < us.length) : Pl.measGo out c (us.drop k) =
    Pl.measGo (if c / us[k].1 = 0 then out else (if out = [] then [] else out ++ [32]) ++ (Pl.spelt (c / us[k].1)).data.toList ++ [32] ++ (Pl.word (c / us[k].1) us[k]).data.toList) (c % us[k].1) (us.drop (k + 1)) := by
  rw [List.drop_eq_getElem_cons hk]; rfl
/-- The text so far, ready for one more part. -/
def gap (out : List UInt8) : List UInt8 := if out = [] then [] else out ++ [32]
theorem step_one {out : List UInt8} {c s : Int} {us : List Pl.Unit} {k : Nat} {one : ByteArray} (hk : k < us.length) (hs : us[k].1 = s) (ho : us[k].2.1 = one) (hq : c / s = 1) :
    Pl.measGo out c (us.drop k) = Pl.measGo (gap out ++ ([49, 32] ++ one.data.toList)) (c % s) (us.drop (k + 1)) := by
  have e1 : (Pl.spelt 1).data.toList = [49] := by decide +kernel
  rw [measGo_drop hk, hs, hq, if_neg (by decide), e1]
  unfold Pl.word gap
  rw [if_pos rfl, ho]
  simp
theorem step_many {out : List UInt8} {c s q : Int} {us : List Pl.Unit} {k : Nat} {many : ByteArray} (hk : k < us.length) (hs : us[k].1 = s) (ho : us[k].2.2 = many) (hq : c / s = q) (h0 : 0 ≤ q) (hq0 : q ≠ 0) (hq1 : q ≠ 1) :
    Pl.measGo out c (us.drop k) = Pl.measGo (gap out ++ (Lib.decDigits q.toNat ++ ([32] ++ many.data.toList))) (c % s) (us.drop (k + 1)) := by
  have e1 : (Pl.spelt q).data.toList = Lib.decDigits q.toNat := by unfold Pl.spelt; simp [Pl.itoa_pos h0]
  rw [measGo_drop hk, hs, hq, if_neg hq0, e1]
  unfold Pl.word gap
  rw [if_neg hq1, ho]
  simp
theorem size_list (s : ByteArray) : s.data.toList.length = s.size := by rw [Array.length_toList]; rfl
theorem digits_h (n : Nat) (D : ByteArray) (w : World) (h : n < 1000000000000000000) (hD : Hid ((⟨(Lib.decDigits n).toArray⟩ : ByteArray) = D)) : Calls Tryz.prog 98 #[.int .i64 n] w fun e w' => e = .returned (.string D) ∧ Below w.heap.size w w' := by
  have := digits_b n w h
  rw [hD.out] at this
  exact this
set_option maxRecDepth 100000 in
set_option maxHeartbeats 4000000 in
theorem measure_b (n : Int) (us : List Pl.Unit) (As Am Ao : Option Addr) (cs cm co : Nat) (w : World) (h0 : 0 ≤ n) (h1 : n ≤ 1000000000000) (hlen : us.length ≤ 40) (hpos : ∀ u ∈ us, 1 ≤ u.1 ∧ u.1 ≤ 1000000000000) (hsz : ∀ u ∈ us, u.2.1.size ≤ 100 ∧ u.2.2.size ≤ 100)
    (hs : IntsS w w.heap.size As (us.map (·.1))) (hm : StrsS w w.heap.size Am (us.map (·.2.2))) (ho : StrsS w w.heap.size Ao (us.map (·.2.1))) :
    Calls Tryz.prog 93 #[.int .i64 n, .slice As us.length cs, .slice Am us.length cm, .slice Ao us.length co] w fun e w' => e = .returned (.string ⟨(Pl.measV n us).toArray⟩) ∧ Below w.heap.size w w' := by
  go_enter Tryz.func93, Tryz.ntmps93
  go_wp2
  go_loopw [9, 10, 11] (fun o r i wr => ∃ (k : Nat) (out : List UInt8) (c : Int), k ≤ us.length ∧ i = .int .i64 k ∧ o = .string ⟨out.toArray⟩ ∧ r = .int .i64 c ∧ 0 ≤ c ∧ c ≤ 1000000000000 ∧ out.length ≤ 250 * k ∧ Hid (Pl.measGo out c (us.drop k) = Pl.measGo [] n us) ∧ Below w.heap.size w wr) (fun _ _ i _ => us.length - (intOf i).toNat)
  case atStart => exact ⟨0, [], n, by omega, rfl, rfl, rfl, h0, h1, by simp, rfl, by go_grown⟩
  case round =>
    obtain ⟨k, out, c, hk, rfl, rfl, rfl, c0, c1, hol, hg, hb⟩ := hrel
    have hszw := hb.size
    by_cases hlt : k < us.length
    · obtain ⟨bs, ofs, rfl, hbs, q0⟩ := IntsS.at1 (hs.below hb) (k := k) (by simpa using hlt)
      obtain ⟨bm, ofm, rfl, hbm, q1⟩ := StrsS.at1 (hm.below hb) (k := k) (by simpa using hlt)
      obtain ⟨bo, ofo, rfl, hbo, q2⟩ := StrsS.at1 (ho.below hb) (k := k) (by simpa using hlt)
      simp only [List.getElem_map] at q0 q1 q2
      obtain ⟨u1, u2⟩ := hpos us[k] (List.getElem_mem hlt)
      obtain ⟨z1, z2⟩ := hsz us[k] (List.getElem_mem hlt)
      have hstep := Lib.hid (measGo_drop (out := out) (c := c) hlt)
      obtain ⟨s, hse⟩ : ∃ s, us[k].1 = s := ⟨_, rfl⟩
      obtain ⟨one, hone⟩ : ∃ one, us[k].2.1 = one := ⟨_, rfl⟩
      obtain ⟨many, hmany⟩ : ∃ many, us[k].2.2 = many := ⟨_, rfl⟩
      rw [hse] at q0 u1 u2
      rw [hone] at q2 z1
      rw [hmany] at q1 z2
      have HS := Lib.hid hse; have HO := Lib.hid hone; have HM := Lib.hid hmany
      clear hse hone hmany
      have d0 : 0 ≤ c / s := Int.ediv_nonneg c0 (by omega)
      have d1 : c / s ≤ c := Int.ediv_le_self _ c0
      have m0 : 0 ≤ c % s := Int.emod_nonneg _ (by omega)
      have m1 : c % s < s := Int.emod_lt_of_pos _ (by omega)
      obtain ⟨q, hq⟩ : ∃ q, c / s = q := ⟨_, rfl⟩
      have HQ := Lib.hid hq
      rw [hq] at d0 d1
      by_cases hq0 : q = 0
      · subst hq0
        go_wp2
        go_roundw
        case rel => exact ⟨k + 1, out, c % s, by omega, by go_num, rfl, rfl, m0, by omega, by omega, by unfold Hid; rw [← hg.out, hstep.out, HS.out, HQ.out, if_pos rfl], by go_grown⟩
        case measure => first | (simp [intOf]; done) | (simp [intOf]; omega)
      · have hq0' : (q == 0) = false := by simpa using hq0
        clear hstep
        by_cases hq1 : q = 1
        · subst hq1
          have hst := Lib.hid (step_one (out := out) hlt HS.out HO.out HQ.out)
          by_cases hout : out = []
          · subst hout
            go_wp2
            go_roundw
            case rel => exact ⟨k + 1, gap [] ++ ([49, 32] ++ one.data.toList), c % s, by omega, by go_num, congrArg Value.string (by apply ByteArray.ext; simp [gap]), rfl, m0, by omega, by simp [gap]; omega, by unfold Hid; rw [← hg.out, hst.out], by go_grown⟩
            case measure => first | (simp [intOf]; done) | (simp [intOf]; omega)
          · have hne : (!out.isEmpty) = true := by cases out <;> simp_all
            go_wp2
            go_roundw
            case rel => exact ⟨k + 1, gap out ++ ([49, 32] ++ one.data.toList), c % s, by omega, by go_num, congrArg Value.string (by apply ByteArray.ext; simp [gap, hout]), rfl, m0, by omega, by simp [gap, hout]; omega, by unfold Hid; rw [← hg.out, hst.out], by go_grown⟩
            case measure => first | (simp [intOf]; done) | (simp [intOf]; omega)
        · have hq1' : (q == 1) = false := by simpa using hq1
          have hst := Lib.hid (step_many (out := out) hlt HS.out HM.out HQ.out d0 hq0 hq1)
          obtain ⟨D, hD⟩ : ∃ D : ByteArray, (⟨(Lib.decDigits q.toNat).toArray⟩ : ByteArray) = D := ⟨_, rfl⟩
          have hDs : D.size ≤ 20 := by rw [← hD]; show (Lib.decDigits q.toNat).toArray.size ≤ 20; rw [List.size_toArray, Lib.decDigits_length]; exact Lib.nDigits_le20 _ (by omega)
          have hDl : Lib.decDigits q.toNat = D.data.toList := by rw [← hD]
          obtain ⟨qn, hqn⟩ : ∃ qn : Nat, q = qn := ⟨q.toNat, by omega⟩
          have HD : Hid ((⟨(Lib.decDigits qn).toArray⟩ : ByteArray) = D) := by unfold Hid; rw [← hD, hqn]; rfl
          have HDl := Lib.hid hDl
          clear hD hDl
          subst hqn
          have hbm2 : bm < wr.heap.size := by omega
          by_cases hout : out = []
          · subst hout
            have a1 : ∀ W, (Op.stringOp .add ⟨#[]⟩ D).run Tryz.prog W = .ok (.string D) W := fun W => by rw [run_string_add W ⟨#[]⟩ D (by decide) (by omega), show (⟨#[]⟩ : ByteArray) ++ D = D by apply ByteArray.ext; simp]
            have a2 : ∀ W, (Op.stringOp .add D ⟨#[32]⟩).run Tryz.prog W = .ok (.string (D ++ ⟨#[32]⟩)) W := fun W => run_string_add W D ⟨#[32]⟩ (by omega) (by decide)
            have a3 : ∀ W, (Op.stringOp .add (D ++ ⟨#[32]⟩) many).run Tryz.prog W = .ok (.string (D ++ ⟨#[32]⟩ ++ many)) W := fun W => run_string_add W _ many (by rw [ByteArray.size_append]; show ((D.size + 1 : Nat) : Int) ≤ _; omega) (by omega)
            go_wp2
            go_region_held3 (fun W => W.cell? ⟨bm, ofm + k, none⟩ = some (.string many)) (assumption)
              (first | (go_at_call 98; refine (digits_h qn D _ (by omega) HD).mono ?_; rintro e w7 ⟨rfl, hx⟩; have hb7 : Below w.heap.size w w7 := Below.trans (by go_grown) (hx.mono (by go_size)); have hsz7 := hb7.size; have p1 := (hx.cell (p := ⟨bm, ofm + k, none⟩) hbm2).trans q1; clear hx))
            all_goals go_wp2
            go_roundw
            case rel => exact ⟨k + 1, gap [] ++ (D.data.toList ++ ([32] ++ many.data.toList)), c % s, by omega, by go_num, congrArg Value.string (by apply ByteArray.ext; simp [gap]), rfl, m0, by omega, by simp [gap]; omega, by unfold Hid; rw [← hg.out, hst.out, HDl.out], by go_grown⟩
            case measure => first | (simp [intOf]; done) | (simp [intOf]; omega)
          · have hne : (!out.isEmpty) = true := by cases out <;> simp_all
            go_wp2
            obtain ⟨X, hX⟩ : ∃ X, ((⟨out.toArray⟩ : ByteArray) ++ ⟨#[32]⟩) = X := ⟨_, rfl⟩
            have hXs : X.size ≤ 10100 := by rw [← hX, ByteArray.size_append]; show out.toArray.size + 1 ≤ 10100; rw [List.size_toArray]; omega
            rw [hX]
            have HX := Lib.hid hX; clear hX
            have a1 : ∀ W, (Op.stringOp .add X D).run Tryz.prog W = .ok (.string (X ++ D)) W := fun W => run_string_add W X D (by omega) (by omega)
            have a2 : ∀ W, (Op.stringOp .add (X ++ D) ⟨#[32]⟩).run Tryz.prog W = .ok (.string (X ++ D ++ ⟨#[32]⟩)) W := fun W => run_string_add W _ ⟨#[32]⟩ (by rw [ByteArray.size_append]; omega) (by decide)
            have a3 : ∀ W, (Op.stringOp .add (X ++ D ++ ⟨#[32]⟩) many).run Tryz.prog W = .ok (.string (X ++ D ++ ⟨#[32]⟩ ++ many)) W := fun W => run_string_add W _ many (by rw [ByteArray.size_append, ByteArray.size_append]; show ((X.size + D.size + 1 : Nat) : Int) ≤ _; omega) (by omega)
            go_region_held3 (fun W => W.cell? ⟨bm, ofm + k, none⟩ = some (.string many)) (assumption)
              (first | (go_at_call 98; refine (digits_h qn D _ (by omega) HD).mono ?_; rintro e w7 ⟨rfl, hx⟩; have hb7 : Below w.heap.size w w7 := Below.trans (by go_grown) (hx.mono (by go_size)); have hsz7 := hb7.size; have p1 := (hx.cell (p := ⟨bm, ofm + k, none⟩) hbm2).trans q1; clear hx))
            all_goals go_wp2
            go_roundw
            case rel => exact ⟨k + 1, gap out ++ (D.data.toList ++ ([32] ++ many.data.toList)), c % s, by omega, by go_num, congrArg Value.string (by apply ByteArray.ext; rw [← HX.out]; simp [gap, hout]), rfl, m0, by omega, by simp [gap, hout]; omega, by unfold Hid; rw [← hg.out, hst.out, HDl.out], by go_grown⟩
            case measure => first | (simp [intOf]; done) | (simp [intOf]; omega)
    · obtain rfl : k = us.length := by omega
      have hfin : Pl.measGo [] n us = out := by rw [← hg.out, List.drop_length]; rfl
      have HFIN := Lib.hid hfin; clear hfin hg
      by_cases hout : out = []
      · subst hout
        go_wp2
        go_ret
        exact ⟨by unfold Pl.measV; rw [HFIN.out]; rfl, by go_grown⟩
      · have hne : out.isEmpty = false := by cases out <;> simp_all
        go_wp2
        go_ret
        exact ⟨by unfold Pl.measV; rw [HFIN.out, if_neg hout]; try rfl, by go_grown⟩
theorem flat1 {α : Type} {enc : α → List Value} (h1 : ∀ x, (enc x).length = 1) {l : List α} {w : World} {b B : Nat} {t : TypeId} (hb : b < B) (h : w.heap[b]? = some (.cells (l.flatMap enc).toArray t (0, 0))) : Seg enc 1 w B (some ⟨b, 0, none⟩) l := by
  refine .inr ⟨b, 0, rfl, hb, fun k x hx j v hv => ?_⟩
  rw [(blk_cells h).1, Nat.zero_add, ← Array.getElem?_toList]
  exact flat_at enc 1 h1 hx hv
theorem three (w : World) (o1 o2 o3 : Obj) : (((w.alloc o1).alloc o2).alloc o3).heap[w.heap.size]? = some o1 ∧ (((w.alloc o1).alloc o2).alloc o3).heap[w.heap.size + 1]? = some o2 ∧ (((w.alloc o1).alloc o2).alloc o3).heap[w.heap.size + 2]? = some o3 := by
  refine ⟨(Below.heap_alloc _ _ _ (by simp; omega)).trans ((Below.heap_alloc _ _ _ (by simp)).trans (World.alloc_heap_new _ _)), (Below.heap_alloc _ _ _ (by simp)).trans ?_, ?_⟩
  · have := World.alloc_heap_new (w.alloc o1) o2; rwa [World.size_alloc] at this
  · have := World.alloc_heap_new ((w.alloc o1).alloc o2) o3; rwa [World.size_alloc, World.size_alloc] at this
/-- Three slices just made: sizes, names of many, names of one. -/
def laid3 (us : List Pl.Unit) (w : World) : World :=
  ((w.alloc (.cells ((us.map (·.1)).flatMap encI).toArray 3)).alloc (.cells ((us.map (·.2.2)).flatMap encS).toArray 9)).alloc (.cells ((us.map (·.2.1)).flatMap encS).toArray 9)
theorem laid3_size (us : List Pl.Unit) (w : World) : (laid3 us w).heap.size = w.heap.size + 3 := by unfold laid3; simp
theorem laid3_below (us : List Pl.Unit) (w : World) : Below w.heap.size w (laid3 us w) := by
  unfold laid3; exact (((Below.refl _ w).alloc (Nat.le_refl _) _).alloc (by simp) _).alloc (by simp; omega) _
theorem laid3_segs (us : List Pl.Unit) (w : World) : IntsS (laid3 us w) (laid3 us w).heap.size (some ⟨w.heap.size, 0, none⟩) (us.map (·.1)) ∧ StrsS (laid3 us w) (laid3 us w).heap.size (some ⟨w.heap.size + 1, 0, none⟩) (us.map (·.2.2)) ∧ StrsS (laid3 us w) (laid3 us w).heap.size (some ⟨w.heap.size + 2, 0, none⟩) (us.map (·.2.1)) := by
  have hz := laid3_size us w
  obtain ⟨k1, k2, k3⟩ := three w (.cells ((us.map (·.1)).flatMap encI).toArray 3) (.cells ((us.map (·.2.2)).flatMap encS).toArray 9) (.cells ((us.map (·.2.1)).flatMap encS).toArray 9)
  exact ⟨flat1 (fun _ => rfl) (by omega) k1, flat1 (fun _ => rfl) (by omega) k2, flat1 (fun _ => rfl) (by omega) k3⟩
theorem meas3 (n : Int) (us : List Pl.Unit) (w : World) (h0 : 0 ≤ n) (h1 : n ≤ 1000000000000) (hlen : us.length ≤ 40) (hpos : ∀ u ∈ us, 1 ≤ u.1 ∧ u.1 ≤ 1000000000000) (hsz : ∀ u ∈ us, u.2.1.size ≤ 100 ∧ u.2.2.size ≤ 100) :
    Calls Tryz.prog 93 #[.int .i64 n, .slice (some ⟨w.heap.size, 0, none⟩) us.length us.length, .slice (some ⟨w.heap.size + 1, 0, none⟩) us.length us.length, .slice (some ⟨w.heap.size + 2, 0, none⟩) us.length us.length] (laid3 us w) fun e w' => e = .returned (.string ⟨(Pl.measV n us).toArray⟩) ∧ Below w.heap.size w w' := by
  obtain ⟨k1, k2, k3⟩ := laid3_segs us w
  refine (measure_b n us _ _ _ _ _ _ _ h0 h1 hlen hpos hsz k1 k2 k3).mono ?_
  rintro e w' ⟨he, hb⟩
  exact ⟨he, (laid3_below us w).trans (hb.mono (by rw [laid3_size]; omega))⟩
set_option maxRecDepth 100000 in
set_option maxHeartbeats 1000000 in
theorem length_b (n : Int) (w : World) : Calls Tryz.prog 49 #[.int .i64 n] w fun e w' => e = .returned (.string (Pl.lengthV n)) ∧ Below w.heap.size w w' := by
  by_cases hn : 0 ≤ n ∧ n ≤ 1000000
  · obtain ⟨h0, h1⟩ := hn
    have hv : (⟨(Pl.measV n Pl.poles).toArray⟩ : ByteArray) = Pl.lengthV n := by
      rw [Pl.lengthV_in h0 h1]; exact Pl.measV_eq h0 (fun u hu => (Pl.good_poles u hu).1) (by rfl)
    have HV := Lib.hid hv; clear hv
    have hm := Lib.hid (meas3 n Pl.poles w h0 (by omega) (by decide) (by decide) (by decide))
    go_enter Tryz.func49, Tryz.ntmps49
    go_wp2_with fail
    refine (Calls.mono (show Calls _ _ _ _ _ from hm.out) ?_)
    rintro e w' ⟨rfl, hb⟩
    rw [HV.out]
    go_wp2
    go_ret
    exact ⟨rfl, hb⟩
  · have hv : Pl.lengthV n = ⟨#[]⟩ := by unfold Pl.lengthV; rw [if_neg hn]
    have HV := Lib.hid hv; clear hv
    have hn' : n < 0 ∨ 1000000 < n := by omega
    clear hn
    go_enter Tryz.func49, Tryz.ntmps49
    go_wp2
    all_goals first
      | (exfalso; omega)
      | (go_ret; exact ⟨by rw [HV.out]; try rfl, by go_grown⟩)
set_option maxRecDepth 100000 in
set_option maxHeartbeats 1000000 in
theorem acres_b (n : Int) (w : World) : Calls Tryz.prog 51 #[.int .i64 n] w fun e w' => e = .returned (.string (Pl.acresV n)) ∧ Below w.heap.size w w' := by
  by_cases hn : 0 ≤ n ∧ n ≤ 1000000000000
  · obtain ⟨h0, h1⟩ := hn
    have hv : (⟨(Pl.measV n Pl.roods).toArray⟩ : ByteArray) = Pl.acresV n := by
      rw [Pl.acresV_in h0 h1]; exact Pl.measV_eq h0 (fun u hu => (Pl.good_roods u hu).1) (by rfl)
    have HV := Lib.hid hv; clear hv
    have hm := Lib.hid (meas3 n Pl.roods w h0 (by omega) (by decide) (by decide) (by decide))
    go_enter Tryz.func51, Tryz.ntmps51
    go_wp2_with fail
    refine (Calls.mono (show Calls _ _ _ _ _ from hm.out) ?_)
    rintro e w' ⟨rfl, hb⟩
    rw [HV.out]
    go_wp2
    go_ret
    exact ⟨rfl, hb⟩
  · have hv : Pl.acresV n = ⟨#[]⟩ := by unfold Pl.acresV; rw [if_neg hn]
    have HV := Lib.hid hv; clear hv
    have hn' : n < 0 ∨ 1000000000000 < n := by omega
    clear hn
    go_enter Tryz.func51, Tryz.ntmps51
    go_wp2
    all_goals first
      | (exfalso; omega)
      | (go_ret; exact ⟨by rw [HV.out]; try rfl, by go_grown⟩)
end Go.Proofs.YthncpapejijloaaGreatDoor
