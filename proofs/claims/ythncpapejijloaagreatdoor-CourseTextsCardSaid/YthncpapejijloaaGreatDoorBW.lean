/- Walks of the reference: measures read. -/
import Derived.Test.YthncpapejijloaaGreatDoorProg
import Derived.WalkKit
import Derived.WalkLawsBesides
import Derived.WalkSpells
import Derived.Handy
import Derived.Lib.Hide
import Derived.Great.BuildSlice
import Derived.Deep.QuietTactic
import Derived.BigQuiet
import Derived.Deep.RegionHeld3
import Derived.Deep.DeepCutAuto
import Derived.Test.YthncpapejijloaaGreatDoorBV
namespace Go.Proofs.YthncpapejijloaaGreatDoor
open Go.RowKit

theorem cutW_len : ∀ (s acc x : List UInt8), x ∈ Pl.cutW acc s → x.length ≤ acc.length + s.length
  | [], acc, x, h => by simp [Pl.cutW] at h; subst h; simp
  | c :: s, acc, x, h => by
    unfold Pl.cutW at h
    split at h
    · rcases List.mem_cons.1 h with rfl | h
      · simp
      · have := cutW_len s [] x h; simp at this ⊢; omega
    · have := cutW_len s (acc ++ [c]) x h; simp at this ⊢; omega
theorem word_le {s : ByteArray} {x : ByteArray} (h : x ∈ Pl.wordsV s) : x.size ≤ s.size := by
  have := cutW_len s.data.toList [] x.data.toList (by rw [← Pl.wordsV_cut]; exact List.mem_map.2 ⟨x, h, rfl⟩)
  rw [size_list, size_list] at this
  simpa using this
theorem numGo_bd : ∀ (l : List UInt8) (n : Int) (k : Nat) (m : Int), 0 ≤ n → n < 10 ^ k → Pl.numGo n l = some m → 0 ≤ m ∧ m < 10 ^ (k + l.length)
  | [], n, k, m, h0, h1, h => by simp only [Pl.numGo] at h; cases h; exact ⟨h0, by simpa using h1⟩
  | c :: l, n, k, m, h0, h1, h => by
    simp only [Pl.numGo] at h
    split at h
    · cases h
    · obtain ⟨p0, p1⟩ := pow_step (c := c.toNat) h0 h1 (by omega) (by omega)
      have := numGo_bd l _ (k + 1) m p0 p1 h
      rw [List.length_cons, show k + (l.length + 1) = k + 1 + l.length by omega]
      exact this
theorem numB_bd {s : ByteArray} {m : Int} (h : Pl.numB s = some m) : 0 ≤ m ∧ m < 1000000000000 := by
  unfold Pl.numB at h
  split at h
  · cases h
  · rename_i hc
    obtain ⟨h0, h1⟩ := numGo_bd _ 0 0 m (by omega) (by simp) h
    rw [size_list] at h1
    have := pow_le_12 (0 + s.size) (by omega)
    omega
theorem cntGo_pair {us : List Pl.Unit} {W : List ByteArray} {n : Int} {i : Nat} (h1 : i + 1 < W.length) : Pl.cntGo us (W.drop i) n =
    (Pl.numB W[i]).bind fun k => if Pl.sizeOf W[i + 1] us 0 = 0 ∨ 1000000000000 / Pl.sizeOf W[i + 1] us 0 < k then none else Pl.cntGo us (W.drop (i + 2)) (n + k * Pl.sizeOf W[i + 1] us 0) := by
  rw [List.drop_eq_getElem_cons (show i < W.length by omega), List.drop_eq_getElem_cons h1]
  rfl
theorem sizeOf_drop {b : ByteArray} {us : List Pl.Unit} {z : Int} {j : Nat} (h : j < us.length) : Pl.sizeOf b (us.drop j) z = Pl.sizeOf b (us.drop (j + 1)) (if b = us[j].2.1 ∨ b = us[j].2.2 then us[j].1 else z) := by
  rw [List.drop_eq_getElem_cons h]; rfl
theorem number_none (s : ByteArray) (w : World) (hs : s.size ≤ 100) (h : Hid (Pl.numB s = none)) : Calls Tryz.prog 118 #[.string s] w fun e w' => e = .returned (.tuple #[.int .i64 0, .bool false]) ∧ w = w' := by
  have := number_b s w hs
  rw [h.out] at this
  exact this
theorem number_some (s : ByteArray) (k : Int) (w : World) (hs : s.size ≤ 100) (h : Hid (Pl.numB s = some k)) : Calls Tryz.prog 118 #[.string s] w fun e w' => e = .returned (.tuple #[.int .i64 k, .bool true]) ∧ w = w' := by
  have := number_b s w hs
  rw [h.out] at this
  exact this
theorem bytes_iff {a b : ByteArray} : a.toList = b.toList ↔ a = b := by
  rw [Go.ByteArray.toList_eq, Go.ByteArray.toList_eq]
  constructor
  · intro h; cases a; cases b; simp only [ByteArray.mk.injEq]; exact Array.toList_inj.1 h
  · rintro rfl; rfl
set_option maxRecDepth 100000 in
set_option maxHeartbeats 4000000 in
theorem counted_b (s : ByteArray) (us : List Pl.Unit) (As Am Ao : Option Addr) (cs cm co : Nat) (w : World) (hs : s.size ≤ 100) (hlen : us.length ≤ 40) (hpos : ∀ u ∈ us, 1 ≤ u.1 ∧ u.1 ≤ 1000000000000)
    (hi : IntsS w w.heap.size As (us.map (·.1))) (hm : StrsS w w.heap.size Am (us.map (·.2.2))) (ho : StrsS w w.heap.size Ao (us.map (·.2.1))) :
    Calls Tryz.prog 90 #[.string s, .slice As us.length cs, .slice Am us.length cm, .slice Ao us.length co] w fun e w' => e = .returned (.tuple #[.int .i64 ((Pl.cntV us s).getD 0), .bool (Pl.cntV us s).isSome]) ∧ Below w.heap.size w w' := by
  obtain ⟨L, hL⟩ : ∃ L, (Pl.wordsV s).length = L := ⟨_, rfl⟩
  have hLm : L ≤ maxLen := by
    have h1 : (Pl.cutW [] s.data.toList).length ≤ s.size + 1 := by
      have : ∀ (l acc : List UInt8), (Pl.cutW acc l).length ≤ l.length + 1 := by
        intro l
        induction l with
        | nil => intro acc; simp [Pl.cutW]
        | cons c l ih => intro acc; unfold Pl.cutW; split
                         · have := ih []; simp; omega
                         · have := ih (acc ++ [c]); simp; omega
      have := this s.data.toList []
      rwa [size_list] at this
    rw [← Pl.wordsV_cut, List.length_map, hL] at h1
    unfold maxLen; omega
  unfold maxLen at hLm
  have HL := Lib.hid hL
  clear hL
  by_cases hodd : L % 2 ≠ 0 ∨ 8 < L
  · have hv : Pl.cntV us s = none := by unfold Pl.cntV; rw [HL.out, if_pos hodd]
    have HV := Lib.hid hv; clear hv
    have hodd' : ¬ (L : Int) % 2 = 0 ∨ 8 < (L : Int) := by omega
    clear hodd
    go_enter Tryz.func90, Tryz.ntmps90
    go_wp2_with (go_at_call 117; refine (words_b s _ hs).mono ?_; rintro e w1 ⟨g, cap, rfl, hsegs, hg1, hx⟩; rw [HL.out]; have hb1 : Below w.heap.size w w1 := Below.trans (by go_grown) (hx.mono (by go_size)); have hsz1 := hb1.size; clear hx)
    all_goals first
      | (exfalso; omega)
      | (go_ret2; exact ⟨by rw [HV.out]; try rfl, by go_grown⟩)
  · have hev : L % 2 = 0 := by omega
    have h8 : L ≤ 8 := by omega
    have hv : Pl.cntV us s = Pl.cntGo us (Pl.wordsV s) 0 := by unfold Pl.cntV; rw [HL.out, if_neg hodd]
    have HV := Lib.hid hv; clear hv hodd
    have HP := Lib.hid hpos
    clear hpos
    have hev' : (L : Int) % 2 = 0 := by omega
    go_enter Tryz.func90, Tryz.ntmps90
    go_wp2_with (go_at_call 117; refine (words_b s _ hs).mono ?_; rintro e w1 ⟨g, cap, rfl, hsegs, hg1, hx⟩; rw [HL.out]; have hb1 : Below w.heap.size w w1 := Below.trans (by go_grown) (hx.mono (by go_size)); have hsz1 := hb1.size; clear hx)
    go_loopw [11, 12] (fun a i wr => ∃ (p : Nat) (n : Int), 2 * p ≤ L ∧ i = .int .i64 ((2 * p : Nat) : Int) ∧ a = .int .i64 n ∧ 0 ≤ n ∧ n ≤ 1000000000000 * p ∧ Hid (Pl.cntV us s = Pl.cntGo us ((Pl.wordsV s).drop (2 * p)) n) ∧ Below w1.heap.size w1 wr) (fun _ i _ => L - (intOf i).toNat)
    case atStart => exact ⟨0, 0, by omega, rfl, rfl, by omega, by omega, HV, by go_grown⟩
    case round =>
      obtain ⟨p, n, hp, rfl, rfl, n0, n1, hg, hb⟩ := hrel
      have hszr := hb.size
      have hbw : Below w.heap.size w wr := hb1.trans (hb.mono hsz1)
      have hszw := hbw.size
      by_cases hlt : 2 * p < L
      · have hlt1 : 2 * p + 1 < L := by omega
        obtain ⟨bw, ofw, hbw1, hbw2, q0⟩ := StrsS.at1 (hsegs.below hb) (k := 2 * p) (by rw [HL.out]; exact hlt)
        obtain ⟨bw', ofw', hbw3, _, q1⟩ := StrsS.at1 (hsegs.below hb) (k := 2 * p + 1) (by rw [HL.out]; exact hlt1)
        obtain ⟨rfl, rfl⟩ : g = bw ∧ 0 = ofw := by simpa using hbw1
        obtain ⟨rfl, rfl⟩ : g = bw' ∧ 0 = ofw' := by simpa using hbw3
        clear hbw1 hbw3
        have hpair := Lib.hid (cntGo_pair (us := us) (n := n) (W := Pl.wordsV s) (i := 2 * p) (by rw [HL.out]; exact hlt1))
        have hs0 := word_le (List.getElem_mem (l := Pl.wordsV s) (n := 2 * p) (by rw [HL.out]; exact hlt))
        obtain ⟨a, ha⟩ : ∃ a, (Pl.wordsV s)[2 * p]'(by rw [HL.out]; exact hlt) = a := ⟨_, rfl⟩
        obtain ⟨b, hbb⟩ : ∃ b, (Pl.wordsV s)[2 * p + 1]'(by rw [HL.out]; exact hlt1) = b := ⟨_, rfl⟩
        rw [ha] at q0 hs0
        rw [hbb] at q1
        have HA := Lib.hid ha; have HBB := Lib.hid hbb
        clear ha hbb
        simp only [Nat.zero_add] at q0 q1
        cases hnum : Pl.numB a with
        | none =>
          have hv : Pl.cntV us s = none := by rw [hg.out, hpair.out, HA.out, hnum]; rfl
          have HV2 := Lib.hid hv
          have HN := Lib.hid hnum
          clear hnum hv
          go_wp2_with (go_at_call 118; refine (number_none a _ (by omega) HN).mono ?_; rintro e w' ⟨rfl, rfl⟩)
          go_loopw [15, 16] (fun zz jj wx => ∃ (j : Nat) (z : Int), j ≤ us.length ∧ jj = .int .i64 j ∧ zz = .int .i64 z ∧ Below w1.heap.size w1 wx) (fun _ jj _ => us.length - (intOf jj).toNat)
          case atStart => exact ⟨0, 0, by omega, rfl, rfl, by go_grown⟩
          case round =>
            obtain ⟨j, z, hj, rfl, rfl, hbx⟩ := hrel
            have hszx := hbx.size
            have hbwx := hb1.trans (hbx.mono hsz1)
            clear q0 q1
            by_cases hltj : j < us.length
            · obtain ⟨bs, ofs, rfl, hbs, r0⟩ := IntsS.at1 (hi.below hbwx) (k := j) (by simpa using hltj)
              obtain ⟨bm, ofm, rfl, hbm, r1⟩ := StrsS.at1 (hm.below hbwx) (k := j) (by simpa using hltj)
              obtain ⟨bo, ofo, rfl, hbo, r2⟩ := StrsS.at1 (ho.below hbwx) (k := j) (by simpa using hltj)
              obtain ⟨bw', ofw', hbw3, _, q1⟩ := StrsS.at1 (hsegs.below hbx) (k := 2 * p + 1) (by rw [HL.out]; exact hlt1)
              obtain ⟨rfl, rfl⟩ : g = bw' ∧ 0 = ofw' := by simpa using hbw3
              clear hbw3
              rw [HBB.out] at q1
              simp only [Nat.zero_add] at q1
              simp only [List.getElem_map] at r0 r1 r2
              obtain ⟨sz, hse⟩ : ∃ sz, us[j].1 = sz := ⟨_, rfl⟩
              obtain ⟨one, hone⟩ : ∃ one, us[j].2.1 = one := ⟨_, rfl⟩
              obtain ⟨many, hmany⟩ : ∃ many, us[j].2.2 = many := ⟨_, rfl⟩
              rw [hse] at r0
              rw [hone] at r2
              rw [hmany] at r1
              clear hse hone hmany
              have e1 : IntKind.i64.wrap (2 * (p : Int) + 1) = 2 * (p : Int) + 1 := IntWalk.i64_in _ (by omega)
              have e2 : (0 : Int) ≤ 2 * (p : Int) + 1 := by omega
              have e3 : (2 * (p : Int) + 1).toNat = 2 * p + 1 := by omega
              have e4 : 2 * (p : Int) + 1 < (L : Int) := by omega
              have e5 : (0 : Int) ≤ (j : Int) := by omega
              have e6 : (j : Int) < (us.length : Int) := by omega
              go_wp2
              all_goals (refine wp_region_quiet_lit (by kernel_rfl) (by kernel_rfl) ?_)
              repeat (any_goals (first | go_big_quiet_step (fail) | quiet_step (fail) | (refine wpQuiet_step (fun K hK => ?_); go_simp; split <;> (refine hK _ ?_; clear hK K))))
              all_goals (refine wpQuiet_nil ?_; intro wq hw'; obtain ⟨nq, hw''⟩ := hw'; have hbq : Below w.heap.size w wq := by rw [hw'']; exact below_drewN (by go_grown) nq)
              all_goals subst hw''
              all_goals go_wp2
              all_goals (
                go_roundw
                case rel => exact ⟨j + 1, _, by omega, by go_num, rfl, by first | (go_grown; done) | exact below_drewN hbx _⟩
                case measure => first | (simp [intOf]; done) | (simp [intOf]; omega))
            · obtain rfl : j = us.length := by omega
              go_wp2
              all_goals go_ret2
              all_goals exact ⟨by rw [HV2.out]; try rfl, by go_grown⟩
        | some k =>
          obtain ⟨k0, k1⟩ := numB_bd hnum
          have HN := Lib.hid hnum
          clear hnum
          go_wp2_with (go_at_call 118; refine (number_some a k _ (by omega) HN).mono ?_; rintro e w' ⟨rfl, rfl⟩)
          go_loopw [15, 16] (fun zz jj wx => ∃ (j : Nat) (z : Int), j ≤ us.length ∧ jj = .int .i64 j ∧ zz = .int .i64 z ∧ 0 ≤ z ∧ z ≤ 1000000000000 ∧ Hid (Pl.sizeOf b us 0 = Pl.sizeOf b (us.drop j) z) ∧ Below w1.heap.size w1 wx) (fun _ jj _ => us.length - (intOf jj).toNat)
          case atStart => exact ⟨0, 0, by omega, rfl, rfl, by omega, by omega, rfl, by go_grown⟩
          case round =>
            obtain ⟨j, z, hj, rfl, rfl, z0, z1, hz, hbx⟩ := hrel
            have hszx := hbx.size
            have hbwx := hb1.trans (hbx.mono hsz1)
            clear q0 q1
            by_cases hltj : j < us.length
            · obtain ⟨bs, ofs, rfl, hbs, r0⟩ := IntsS.at1 (hi.below hbwx) (k := j) (by simpa using hltj)
              obtain ⟨bm, ofm, rfl, hbm, r1⟩ := StrsS.at1 (hm.below hbwx) (k := j) (by simpa using hltj)
              obtain ⟨bo, ofo, rfl, hbo, r2⟩ := StrsS.at1 (ho.below hbwx) (k := j) (by simpa using hltj)
              obtain ⟨bw', ofw', hbw3, _, q1⟩ := StrsS.at1 (hsegs.below hbx) (k := 2 * p + 1) (by rw [HL.out]; exact hlt1)
              obtain ⟨rfl, rfl⟩ : g = bw' ∧ 0 = ofw' := by simpa using hbw3
              clear hbw3
              rw [HBB.out] at q1
              simp only [Nat.zero_add] at q1
              simp only [List.getElem_map] at r0 r1 r2
              have hdr := Lib.hid (sizeOf_drop (b := b) (z := z) hltj)
              obtain ⟨u1, u2⟩ := HP.out us[j] (List.getElem_mem hltj)
              obtain ⟨sz, hse⟩ : ∃ sz, us[j].1 = sz := ⟨_, rfl⟩
              obtain ⟨one, hone⟩ : ∃ one, us[j].2.1 = one := ⟨_, rfl⟩
              obtain ⟨many, hmany⟩ : ∃ many, us[j].2.2 = many := ⟨_, rfl⟩
              rw [hse] at r0 u1 u2
              rw [hone] at r2
              rw [hmany] at r1
              have HS := Lib.hid hse; have HO := Lib.hid hone; have HM := Lib.hid hmany
              clear hse hone hmany
              have e1 : IntKind.i64.wrap (2 * (p : Int) + 1) = 2 * (p : Int) + 1 := IntWalk.i64_in _ (by omega)
              have e2 : (0 : Int) ≤ 2 * (p : Int) + 1 := by omega
              have e3 : (2 * (p : Int) + 1).toNat = 2 * p + 1 := by omega
              have e4 : 2 * (p : Int) + 1 < (L : Int) := by omega
              have e5 : (0 : Int) ≤ (j : Int) := by omega
              have e6 : (j : Int) < (us.length : Int) := by omega
              go_wp2
              all_goals (refine wp_region_quiet_lit (by kernel_rfl) (by kernel_rfl) ?_)
              repeat (any_goals (first | go_big_quiet_step (fail) | quiet_step (fail) | (refine wpQuiet_step (fun K hK => ?_); go_simp; split <;> (refine hK _ ?_; clear hK K))))
              all_goals (refine wpQuiet_nil ?_; intro wq hw'; obtain ⟨nq, hw''⟩ := hw'; have hbq : Below w.heap.size w wq := by rw [hw'']; exact below_drewN (by go_grown) nq)
              all_goals subst hw''
              all_goals go_wp2
              · go_roundw
                case rel => exact ⟨j + 1, sz, by omega, by go_num, rfl, by omega, by omega, by unfold Hid; rw [hz.out, hdr.out, HM.out, HO.out, HS.out, if_pos (.inr (bytes_iff.1 (by assumption)))], by first | (go_grown; done) | exact below_drewN hbx _⟩
                case measure => first | (simp [intOf]; done) | (simp [intOf]; omega)
              · have hm1 := ‹¬ b.toList = many.toList›
                have hm2 := ‹(b.toList == many.toList) = true ∨ (b.toList == one.toList) = true›
                have hb1' : b = one := by
                  rcases hm2 with h | h
                  · exact absurd (by simpa using h) hm1
                  · exact bytes_iff.1 (by simpa using h)
                have HB1 := Lib.hid hb1'
                go_roundw
                case rel => exact ⟨j + 1, sz, by omega, by go_num, rfl, by omega, by omega, by unfold Hid; rw [hz.out, hdr.out, HM.out, HO.out, HS.out, if_pos (.inl HB1.out)], by first | (go_grown; done) | exact below_drewN hbx _⟩
                case measure => first | (simp [intOf]; done) | (simp [intOf]; omega)
              · have hm1 := ‹¬ b.toList = many.toList›
                have hm2 := ‹(b.toList == many.toList) = false ∧ (b.toList == one.toList) = false›
                have hb1' : ¬ (b = one ∨ b = many) := by
                  rintro (h | h)
                  · have := hm2.2; rw [h] at this; simp at this
                  · exact hm1 (bytes_iff.2 h)
                have HB1 := Lib.hid hb1'
                clear hb1'
                go_roundw
                case rel => exact ⟨j + 1, z, by omega, by go_num, rfl, by omega, by omega, by unfold Hid; rw [hz.out, hdr.out, HM.out, HO.out, if_neg HB1.out], by first | (go_grown; done) | exact below_drewN hbx _⟩
                case measure => first | (simp [intOf]; done) | (simp [intOf]; omega)
            · obtain rfl : j = us.length := by omega
              have hzz : Pl.sizeOf b us 0 = z := by rw [hz.out, List.drop_length]; rfl
              have HZ := Lib.hid hzz; clear hzz hz
              have hst : Pl.cntV us s = if z = 0 ∨ 1000000000000 / z < k then none else Pl.cntGo us ((Pl.wordsV s).drop (2 * p + 2)) (n + k * z) := by
                rw [hg.out, hpair.out, HA.out, HBB.out, HN.out, HZ.out]; rfl
              by_cases hz0 : z = 0
              · subst hz0
                have hv : Pl.cntV us s = none := by rw [hst, if_pos (.inl rfl)]
                have HV2 := Lib.hid hv; clear hv hst
                go_wp2
                go_ret2
                exact ⟨by rw [HV2.out]; try rfl, by go_grown⟩
              · have hz0' : (z == 0) = false := by simpa using hz0
                have hz1 : 1 ≤ z := by omega
                have q0' : 0 ≤ 1000000000000 / z := Int.ediv_nonneg (by omega) (by omega)
                have q1' : 1000000000000 / z ≤ 1000000000000 := Int.ediv_le_self _ (by omega)
                by_cases hk : 1000000000000 / z < k
                · have hv : Pl.cntV us s = none := by rw [hst, if_pos (.inr hk)]
                  have HV2 := Lib.hid hv; clear hv hst
                  go_wp2
                  go_ret2
                  exact ⟨by rw [HV2.out]; try rfl, by go_grown⟩
                · have hv : Pl.cntV us s = Pl.cntGo us ((Pl.wordsV s).drop (2 * p + 2)) (n + k * z) := by rw [hst, if_neg (by omega)]
                  obtain ⟨m0, m1⟩ := Pl.step_bd k0 (show 0 < z by omega) (show k ≤ 1000000000000 / z by omega)
                  have HV2 := Lib.hid hv; clear hv hst
                  go_wp2
                  go_roundw
                  case rel => exact ⟨_, _, _, _, ⟨p + 1, by omega, rfl, n + k * z, rfl, by omega, by omega, by unfold Hid; rw [HV2.out]; rfl⟩, rfl, rfl, rfl, congrArg (Value.int .i64) (by omega)⟩
                  case measure => simp [intOf]; omega
      · have hend : 2 * p = L := by omega
        have hv : Pl.cntV us s = some n := by rw [hg.out, List.drop_eq_nil_of_le (by rw [HL.out]; omega)]; rfl
        have HV2 := Lib.hid hv; clear hv hg
        have hge : ¬ 2 * (p : Int) < (L : Int) := by omega
        go_wp2
        go_ret2
        exact ⟨by rw [HV2.out]; try rfl, by go_grown⟩
end Go.Proofs.YthncpapejijloaaGreatDoor
