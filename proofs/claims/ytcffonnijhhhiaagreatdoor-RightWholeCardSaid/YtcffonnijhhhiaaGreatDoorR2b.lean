/- Walk: the law RightWhole. -/
import Derived.Test.YtcffonnijhhhiaaGreatDoorProg
import Derived.WalkKit
import Derived.WalkLawsBesides
import Derived.WalkSpells
import Derived.Handy
import Derived.Lib.Hide
import Derived.Great.BuildSlice
import Derived.Deep.QuietTactic
import Derived.BigQuiet
import Derived.Deep.RegionHeld3
import Derived.Deep.DeepCutAuto
import Derived.Test.YtcffonnijhhhiaaGreatDoorU32
import Derived.Test.YtcffonnijhhhiaaGreatDoorR2a
import Derived.Test.YtcffonnijhhhiaaGreatDoorU30
set_option linter.all false
set_option linter.unusedSimpArgs false
set_option linter.unusedVariables false
set_option linter.unusedSectionVars false
namespace Go.Proofs.YtcffonnijhhhiaaGreatDoor
open Go Go.RowKit Go.Maps Mp
attribute [-simp] Prod.forall Prod.exists
attribute [-go_sem] loadVar storeVar Builtin.append_
theorem below_drewN {B : Nat} {a w : World} (h : Below B a w) (n : Nat) : Below B a (w.drewN n) := ⟨h.os, h.tape, h.output, h.size, h.block⟩
theorem lk_sH (a : Addr) (w : World) : (loadVar 52 a).run Tryz.prog w = (load a).run Tryz.prog w := lv_scalar Tryz.underlying52 rfl a w
attribute [local go_sem] lk_int lk_u8 lk_ints lk_sL lk_sE lk_sS lk_sH

theorem few30_a (A : Option Addr) (c : Nat) (L : List Dp) (w : World) (h : Seg encD 11 w w.heap.size A L) (hm : L.length ≤ maxLen) : Calls Tryz.prog 36 #[.slice A L.length c] w fun e w' => e = .returned (.bool (Rt.few (dls L) 30)) ∧ w' = w := by
  have hfe := few_a A c L 30 w h hm (by decide)
  obtain ⟨b, hb⟩ : ∃ b, Rt.few (dls L) 30 = b := ⟨_, rfl⟩
  rw [hb] at hfe ⊢
  clear h hm hb
  go_enter Tryz.func36, Tryz.ntmps36
  go_wp2_with fail
  refine hfe.mono ?_
  rintro e w' ⟨rfl, rfl⟩
  go_wp2
  go_ret
  exact ⟨rfl, rfl⟩
/-- Lots, their holdings and their sizes, as a roll has them. -/
structure LotsOk (l : List Rt.Lot) : Prop where
  held : ∀ x ∈ l, Rt.Held x.held ∧ 1 ≤ x.size
  up : ∀ j (h : j + 1 < l.length), l[j].number < l[j + 1].number
theorem lots_ok {s : Rt.St} (h : Rt.Inv s) : LotsOk s.roll.lots := by
  refine ⟨fun x hx => ⟨(h.held x hx).1, (h.held x hx).2.1⟩, fun j hj => ?_⟩
  have hp := asc_lt h.lots
  have := List.pairwise_iff_getElem.1 hp j (j + 1) (by simp; omega) (by simpa using hj) (by omega)
  simpa using this
theorem held_up {l : List (Int × Int)} (h : Rt.Held l) (k : Nat) (hk : k + 1 < l.length) : l[k].1 < l[k + 1].1 := by
  have := List.pairwise_iff_getElem.1 (asc_lt h.asc) k (k + 1) (by simp; omega) (by simpa using hk) (by omega)
  simpa using this
set_option maxRecDepth 100000 in
set_option maxHeartbeats 8000000 in
theorem rightWhole_w (A : Option Addr) (c : Nat) (L : List Dp) (day : Int) (w : World) (hE : Env w) (h : Dlo w w.heap.size A L) (hc : L.length ≤ c) (hm : c ≤ maxLen) : Calls Tryz.prog 7 #[.slice A L.length c, .int .i64 day] w fun e w' => e = .returned (.bool true) ∧ Below w.heap.size w w' := by
  have hfe := few30_a A c L w h.seg (Nat.le_trans hc hm)
  have HE := Lib.hid hE
  by_cases hf : Rt.few (dls L) 30 = true
  case neg =>
    have hf2 : Rt.few (dls L) 30 = false := by simpa using hf
    rw [hf2] at hfe
    have hal := alive_a w hE
    clear hf hf2 h hE hc hm
    go_enter Tryz.func7, Tryz.ntmps7
    go_wp2_with fail
    refine hfe.mono ?_
    clear hfe
    rintro e w' ⟨rfl, rfl⟩
    go_wp2_with fail
    refine hal.mono ?_
    rintro e w1 ⟨rfl, hb⟩
    go_wp2
    go_ret
    exact ⟨rfl, hb⟩
  rw [hf] at hfe
  obtain ⟨hD, hl30⟩ := h.few hf
  have hro := rollF_a A c L day w hD (by omega)
  have HD := Lib.hid hD
  have HL30 := Lib.hid hl30
  unfold EndRf at hro
  clear hf h hE hD hl30 hm
  by_cases h0 : (Rt.check (dls L)).2 = 0
  case neg =>
    have hr : onR (dls L) day = ⟨[], [], []⟩ := if_neg h0
    obtain ⟨E, hEE⟩ : ∃ E, (Rt.check (dls L)).2 = E := ⟨_, rfl⟩
    rw [hr, hEE] at hro
    rw [hEE] at h0
    have hq : (E != 0) = true := by simpa using h0
    clear h0 hEE hr
    go_enter Tryz.func7, Tryz.ntmps7
    go_wp2_with fail
    refine hfe.mono ?_
    clear hfe
    rintro e w' ⟨rfl, rfl⟩
    go_wp2_with fail
    refine hro.mono ?_
    clear hro
    rintro e w1 ⟨A1, c1, A2, c2, A3, c3, M, rfl, _, _, _, _, _, _, _, _, _, b1, _⟩
    obtain ⟨w2, st2, k2, g2⟩ := st_row (w1.alloc (.cells zcR 50)) w1.heap.size 50 50 zcR #[.slice A1 0 c1, .slice A2 0 c2, .slice A3 0 c3] (heap_alloc_new w1 _) info_roll rfl (by simp [Value.oneCell'])
    have b2 : Below w1.heap.size w1 w2 := ((Below.refl _ w1).alloc (Nat.le_refl _) _).grown g2 (by simp) (by intro k e; cases e; exact Nat.le_refl _)
    have HB2 := Lib.hid (b1.trans (b2.mono b1.size))
    have hal := alive_a w2 (HE.out.up HB2.out)
    have hx2 := (Array.getElem?_eq_some_iff.1 k2).1
    have HK2 := Lib.hid k2
    have HX2 := Lib.hid hx2
    clear b1 b2 g2 k2 hx2
    go_wp2_with fail
    refine hal.mono ?_
    clear hal st2
    rintro e w3 ⟨rfl, b3⟩
    obtain ⟨hc3, hf3⟩ := blk_cells ((b3.block _ HX2.out).trans HK2.out)
    go_wp2
    go_ret
    exact ⟨rfl, HB2.out.trans (b3.mono HB2.out.size)⟩
  have hr : onR (dls L) day = (stDay (dls L) day).roll := if_pos h0
  have hin : Rt.Inv (stDay (dls L) day) := Rt.check_inv (Rt.on_right h0 day)
  have htot := Rt.whole_total h0 day
  have htt := total_a A c L day
  rw [hr] at hro htt
  have HLO := Lib.hid (lots_ok hin)
  have HH0 := Lib.hid h0
  have HTT := Lib.hid (fun (V : World) (hV : Below w.heap.size w V) => htt V (HD.out.up hV) (by have := HL30.out; omega))
  obtain ⟨r, hrr⟩ : ∃ r, (stDay (dls L) day).roll = r := ⟨_, rfl⟩
  rw [h0] at hro
  rw [hrr] at hro HLO HTT
  have HTOT : Hid (Rt.total r.lots = Rt.enteredTo (dls L) day (dls L).length) := Lib.hid (by rw [← hrr, Rt.enteredTo_all]; exact htot)
  clear h0 hr hin htot htt hrr
  go_enter Tryz.func7, Tryz.ntmps7
  go_wp2_with fail
  refine hfe.mono ?_
  clear hfe
  rintro e w' ⟨rfl, rfl⟩
  go_wp2_with fail
  refine hro.mono ?_
  clear hro
  rintro e w1 ⟨A1, c1, A2, c2, A3, c3, M, rfl, hR, _, _, _, _, _, _, _, _, b1, hfew⟩
  have HFW := Lib.hid hfew
  obtain ⟨w2, st2, k2, g2⟩ := st_row (w1.alloc (.cells zcR 50)) w1.heap.size 50 50 zcR #[.slice A1 r.lots.length c1, .slice A2 r.eases.length c2, .slice A3 r.stints.length c3] (heap_alloc_new w1 _) info_roll rfl (by simp [Value.oneCell'])
  have b2 : Below w1.heap.size w1 w2 := ((Below.refl _ w1).alloc (Nat.le_refl _) _).grown g2 (by simp) (by intro k e; cases e; exact Nat.le_refl _)
  have HR2 := Lib.hid ((hR.lots.below b2).more b2.size)
  have HIS := Lib.hid hR.is
  have HB2 := Lib.hid (b1.trans (b2.mono b1.size))
  have HK2 := Lib.hid k2
  have HX2 := Lib.hid (Array.getElem?_eq_some_iff.1 k2).1
  obtain ⟨hc2, hf2⟩ := blk_cells k2
  obtain ⟨n, hn⟩ : ∃ n, r.lots.length = n := ⟨_, rfl⟩
  rw [hn] at st2 hc2
  have HN : Hid (M.length = n) := Lib.hid (by rw [← hn, ← HIS.out, List.length_map])
  have HNR := Lib.hid hn
  have HBR := Lib.hid (Below.refl w2.heap.size w2)
  have HT0 : Hid (Rt.sizesTo r.lots 0 = 0) := Lib.hid rfl
  rw [hn]
  clear b1 b2 g2 hR k2 hn hfew
  go_wp2
  go_loopw [7, 46] (fun v i wr => ∃ (j : Nat) (z : Int), j ≤ n ∧ i = .int .i64 (j : Int) ∧ v = .int .i64 z ∧ Hid (Rt.sizesTo r.lots j = z) ∧ Hid (Below w2.heap.size w2 wr)) (fun _ i _ => n - (intOf i).toNat)
  case atStart => exact ⟨0, 0, by omega, rfl, rfl, HT0, HBR⟩
  case round =>
    obtain ⟨j, z, hj, rfl, rfl, HZ, HBr⟩ := hrel
    obtain ⟨wo, rfl⟩ : ∃ wo : World, wo = wr := ⟨_, rfl⟩
    by_cases hlt : j < n
    · have hji : (j : Int) < (n : Int) := by omega
      have hjM : j < M.length := by rw [HN.out]; exact hlt
      have hjR : j < r.lots.length := by rw [HNR.out]; exact hlt
      have hbr := HBr.out
      obtain ⟨b, off, hA, hbb, hcl⟩ := (HR2.out.seg.below hbr).at_ hjM
      have hld : (loadVar 54 ⟨b, off + j * 3, none⟩).run Tryz.prog wo = .ok (.agg (rowL M[j])) wo := run_loadVar_mid wo b (off + j * 3) 54 (encL M[j]) _ (fun i v hv => hcl i v hv) Tryz.underlying54 rfl info_lot
      have hheld := ((HR2.out.below hbr).each M[j] (List.getElem_mem hjM)).1
      have hMr : M[j].x = r.lots[j] := by
        have : (lts M)[j]? = r.lots[j]? := by rw [HIS.out]
        rw [List.getElem?_map, List.getElem?_eq_getElem hjM, List.getElem?_eq_getElem hjR] at this
        simpa using this
      have hok := HLO.out.held r.lots[j] (List.getElem_mem hjR)
      have hmb := HFW.out.held r.lots[j] (List.getElem_mem hjR)
      rw [← hMr] at hmb
      rw [← hMr] at hok
      have hsz := Rt.sizesTo_next hjR
      rw [HZ.out, ← hMr] at hsz
      have hs1 := Rt.sizesTo_in (fun x hx => (HLO.out.held x hx).2) j
      have hs2 := Rt.sizesTo_in (fun x hx => (HLO.out.held x hx).2) (j + 1)
      have htb := Rt.enteredTo_in HH0.out day (dls L).length
      rw [← HTOT.out] at htb
      have hl30 := HL30.out
      have hbz : 0 ≤ z ∧ z ≤ 10000000000 * 30 := by
        rw [HZ.out] at hs1
        have : ((dls L).length : Int) ≤ 30 := by simpa using hl30
        omega
      have hbs : 0 ≤ z + M[j].x.size ∧ z + M[j].x.size ≤ 10000000000 * 30 := by
        rw [hsz] at hs2
        have : ((dls L).length : Int) ≤ 30 := by simpa using hl30
        omega
      have hup : 0 < j → ∃ q : Lp, M[j - 1]? = some q ∧ q.x.number < M[j].x.number := fun h => by
        have hj1 : j - 1 < M.length := by omega
        refine ⟨M[j - 1], List.getElem?_eq_getElem hj1, ?_⟩
        have h1 := HLO.out.up (j - 1) (by omega)
        have e : ∀ i (hi : i < M.length) (hi2 : i < r.lots.length), M[i].x = r.lots[i] := fun i hi hi2 => by
          have : (lts M)[i]? = r.lots[i]? := by rw [HIS.out]
          rw [List.getElem?_map, List.getElem?_eq_getElem hi, List.getElem?_eq_getElem hi2] at this
          simpa using this
        rw [e (j - 1) hj1 (by omega), hMr]
        have h2 : r.lots[j - 1 + 1]'(by omega) = r.lots[j] := by congr 1; omega
        rw [← h2]
        exact h1
      have hprev : 0 < j → ∃ v : Int, v < M[j].x.number ∧ Hid (∀ V : World, Below w2.heap.size w2 V → V.cell? ⟨b, off + (j - 1) * 3, none⟩ = some (.int .i64 v)) := fun h => by
        obtain ⟨q, hq, hlt2⟩ := hup h
        refine ⟨q.x.number, hlt2, Lib.hid fun V hV => ?_⟩
        rcases HR2.out.seg.below hV with h3 | ⟨b3, o3, hA3, _, hc3⟩
        · rw [h3] at hjM; simp at hjM
        · rw [hA] at hA3
          cases hA3
          have := hc3 (j - 1) q hq 0 _ rfl
          simpa using this
      have HPV := Lib.hid hprev
      have HSZ := Lib.hid hsz
      obtain ⟨p, hp⟩ : ∃ p, M[j] = p := ⟨_, rfl⟩
      rw [hp] at hld hheld hok HSZ hbs HPV hmb
      have HHELD := Lib.hid hok.1
      have hpsz := hok.2
      obtain ⟨w4, st4, k4, g4⟩ := st_row (wo.alloc (.cells zcL 54)) wo.heap.size 54 54 zcL (rowL p) (heap_alloc_new wo _) info_lot rfl (by simp [Value.oneCell'])
      have b4 : Below wo.heap.size wo w4 := ((Below.refl _ wo).alloc (Nat.le_refl _) _).grown g4 (by simp) (by intro k e; cases e; exact Nat.le_refl _)
      have HB4 := Lib.hid (hbr.trans (b4.mono hbr.size))
      have HK4 := Lib.hid k4
      have HX4 := Lib.hid (Array.getElem?_eq_some_iff.1 k4).1
      have HH4 := Lib.hid ((hheld.below (b4.mono (by have := hbr.size; omega))).more (Nat.le_trans hbr.size b4.size))
      obtain ⟨hc4, hf4⟩ := blk_cells k4
      obtain ⟨m, hm⟩ : ∃ m, p.x.held.length = m := ⟨_, rfl⟩
      have HM := Lib.hid hm
      rw [hm] at hmb
      have HRf := Lib.hid (Below.refl w4.heap.size w4)
      have HP0 : Hid (Rt.partsTo p.x.held 0 = 0) := Lib.hid rfl
      unfold rowL at st4 hc4 hld
      rw [hm] at st4 hc4 hld
      obtain ⟨Ap, hAp⟩ : ∃ Ap, p.A = Ap := ⟨_, rfl⟩
      rw [hAp] at st4 hc4 hld HH4
      have HAp := Lib.hid hAp
      clear hAp
      subst hA
      clear hcl hheld hok hMr hsz hs1 hs2 htb hup hprev hbr b4 g4 k4 hp hm hl30 hjM hjR
      go_wp2
      go_loopw [10, 54] (fun v i wr => ∃ (k : Nat) (y : Int), k ≤ m ∧ i = .int .i64 (k : Int) ∧ v = .int .i64 y ∧ Hid (Rt.partsTo p.x.held k = y) ∧ Hid (Below w4.heap.size w4 wr)) (fun _ i _ => m - (intOf i).toNat)
      case atStart => exact ⟨0, 0, by omega, rfl, rfl, HP0, HRf⟩
      case round =>
        obtain ⟨k, y, hk, rfl, rfl, HY, HBs⟩ := hrel
        have kp := (HBs.out.block _ HX4.out).trans HK4.out
        unfold rowL at kp
        rw [HM.out, HAp.out] at kp
        have hxp : wo.heap.size < wr.heap.size := (Array.getElem?_eq_some_iff.1 kp).1
        by_cases hkt : k < m
        · have hki : (k : Int) < (m : Int) := by omega
          have hkl : k < p.x.held.length := by rw [HM.out]; exact hkt
          obtain ⟨bh, oh, hAh, hbh, hch⟩ := (HH4.out.below HBs.out).at_ hkl
          subst hAh
          have hld2 : (loadVar 59 ⟨bh, oh + k * 2, none⟩).run Tryz.prog wr = .ok (.agg (rowH p.x.held[k])) wr := run_loadVar_mid wr bh (oh + k * 2) 59 (encH p.x.held[k]) _ (fun i v hv => hch i v hv) Tryz.underlying59 rfl info_hold
          have hpos := HHELD.out.pos p.x.held[k] (List.getElem_mem hkl)
          have hnx := Rt.partsTo_next hkl
          rw [HY.out] at hnx
          have hpb := (Rt.partsTo_in HHELD.out).1 k
          have hpb2 := (Rt.partsTo_in HHELD.out).1 (k + 1)
          rw [HY.out] at hpb
          rw [hnx] at hpb2
          have hpv : ∀ k', k = k' + 1 → ∃ v : Int, v < p.x.held[k].1 ∧ wr.cell? ⟨bh, oh + k' * 2, none⟩ = some (.int .i64 v) := fun k' e => by
            subst e
            refine ⟨p.x.held[k'].1, held_up HHELD.out k' hkl, ?_⟩
            rcases HH4.out.below HBs.out with h3 | ⟨b3, o3, hA3, _, hc3⟩
            · rw [h3] at hkl; simp at hkl
            · cases hA3
              have := hc3 k' p.x.held[k'] (List.getElem?_eq_getElem (by omega)) 0 _ rfl
              simpa using this
          have HPW := Lib.hid hpv
          have HNX := Lib.hid hnx
          obtain ⟨q, hq⟩ : ∃ q, p.x.held[k] = q := ⟨_, rfl⟩
          rw [hq] at hld2 hpos HPW HNX hpb2
          obtain ⟨w5, st5, k5, g5⟩ := st_row (wr.alloc (.cells #[.int .i64 0, .int .i64 0] 59)) wr.heap.size 59 59 #[.int .i64 0, .int .i64 0] (rowH q) (heap_alloc_new wr _) info_hold rfl (by simp [Value.oneCell'])
          have b5 : Below wr.heap.size wr w5 := ((Below.refl _ wr).alloc (Nat.le_refl _) _).grown g5 (by simp) (by intro k e; cases e; exact Nat.le_refl _)
          have HB5 := Lib.hid (HBs.out.trans (b5.mono HBs.out.size))
          have kp5 : w5.heap[wo.heap.size]? = some (.cells #[.int .i64 p.x.number, .int .i64 p.x.size, .slice (some ⟨bh, oh, none⟩) m p.c] 54 (0, 0)) := (b5.block _ hxp).trans kp
          obtain ⟨hc5, hf5⟩ := blk_cells k5
          obtain ⟨hcp, hfp⟩ := blk_cells kp5
          have hwr : IntKind.i64.wrap (y + q.2) = y + q.2 := IntWalk.i64_in _ (by omega)
          have hq1 : ¬ q.2 < 1 := by omega
          have hPb : ∀ a : Addr, a.block < wr.heap.size → w5.cell? a = wr.cell? a := fun a ha => b5.cell ha
          have HPb := Lib.hid hPb
          unfold rowH at st5 hc5 hld2
          clear hPb hch hq hnx hpb hpb2 hpos hpv b5 g5 k5 kp5 kp
          by_cases hk0 : 0 < k
          case neg =>
            have hki0 : ¬ (0 : Int) < (k : Int) := by omega
            have HX := Lib.hid HNX.out
            clear HPW
            go_wp2
            refine wp_region_quiet_lit (by kernel_rfl) (by kernel_rfl) ?_
            repeat (first | go_big_quiet_step (fail) | quiet_step (fail))
            refine wpQuiet_nil ?_
            rintro wq ⟨nq, rfl⟩
            have HBW : Hid (Below w4.heap.size w4 (w5.drewN nq)) := Lib.hid (below_drewN HB5.out nq)
            go_wp2
            go_roundw
            case rel => exact ⟨k + 1, y + q.2, by omega, by go_num, rfl, HX, HBW⟩
            case measure => first | (simp [intOf]; done) | (simp [intOf]; omega)
          case pos =>
            obtain ⟨k', rfl⟩ : ∃ k', k = k' + 1 := ⟨k - 1, by omega⟩
            obtain ⟨v, hvlt, hvc⟩ := HPW.out k' rfl
            have hvw : w5.cell? ⟨bh, oh + k' * 2, none⟩ = some (.int .i64 v) := (HPb.out ⟨bh, oh + k' * 2, none⟩ (by have := HBs.out.size; show bh < wr.heap.size; omega)).trans hvc
            have hge : ¬ q.1 ≤ v := by omega
            have hkp : (0 : Int) < (k' : Int) + 1 := by omega
            have hkm : (k' : Int) < (m : Int) := by omega
            have hkn : k' < m := by omega
            have hkw1 : IntKind.i64.wrap ((k' : Int) + 1 - 1) = (k' : Int) := by rw [show (k' : Int) + 1 - 1 = (k' : Int) by omega]; exact IntWalk.i64_in _ (by omega)
            have hkw2 : IntKind.i64.wrap (k' : Int) = (k' : Int) := IntWalk.i64_in _ (by omega)
            have HX := Lib.hid HNX.out
            clear HPW hvc hk0
            go_wp2
            refine wp_region_quiet_lit (by kernel_rfl) (by kernel_rfl) ?_
            repeat (first | go_big_quiet_step (fail) | quiet_step (fail))
            refine wpQuiet_nil ?_
            rintro wq ⟨nq, rfl⟩
            have HBW : Hid (Below w4.heap.size w4 (w5.drewN nq)) := Lib.hid (below_drewN HB5.out nq)
            go_wp2
            go_roundw
            case rel => exact ⟨k' + 1 + 1, y + q.2, by omega, by go_num, rfl, HX, HBW⟩
            case measure => first | (simp [intOf]; done) | (simp [intOf]; omega)
        · obtain rfl : m = k := by omega
          have hy : y = 5040 := by
            rw [← HY.out, ← HM.out]
            exact (Rt.partsTo_in HHELD.out).2
          subst hy
          obtain ⟨hcp, hfp⟩ := blk_cells kp
          have kr : wr.heap[w1.heap.size]? = some (.cells #[.slice (some ⟨b, off, none⟩) n c1, .slice A2 r.eases.length c2, .slice A3 r.stints.length c3] 50 (0, 0)) := by
            have h1 := (HBs.out.block w1.heap.size (Nat.lt_of_lt_of_le HX2.out HB4.out.size)).trans ((HB4.out.block w1.heap.size HX2.out).trans HK2.out)
            rw [h1, HNR.out]
          obtain ⟨hcr, hfr⟩ := blk_cells kr
          have hb1 : ¬ p.x.size < 1 := by omega
          have hwz : IntKind.i64.wrap (z + p.x.size) = z + p.x.size := IntWalk.i64_in _ (by omega)
          have HBQ := Lib.hid (HB4.out.trans (HBs.out.mono HB4.out.size))
          clear kp kr
          by_cases hj0 : 0 < j
          case neg =>
            have hji0 : ¬ (0 : Int) < (j : Int) := by omega
            clear HPV
            go_wp2
            refine wp_region_quiet_lit (by kernel_rfl) (by kernel_rfl) ?_
            repeat (first | go_big_quiet_step (fail) | quiet_step (fail))
            refine wpQuiet_nil ?_
            rintro wq ⟨nq, rfl⟩
            have HBW : Hid (Below w2.heap.size w2 (wr.drewN nq)) := Lib.hid (below_drewN HBQ.out nq)
            go_wp2
            go_roundw
            case rel => exact ⟨j + 1, z + p.x.size, by omega, by go_num, rfl, HSZ, HBW⟩
            case measure => first | (simp [intOf]; done) | (simp [intOf]; omega)
          case pos =>
            obtain ⟨v, hvlt, HVC⟩ := HPV.out hj0
            obtain ⟨j', rfl⟩ : ∃ j', j = j' + 1 := ⟨j - 1, by omega⟩
            have hvw : wr.cell? ⟨b, off + j' * 3, none⟩ = some (.int .i64 v) := HVC.out wr HBQ.out
            have hge : ¬ p.x.number ≤ v := by omega
            have hkp : (0 : Int) < (j' : Int) + 1 := by omega
            have hkm : (j' : Int) < (n : Int) := by omega
            have hkn : j' < n := by omega
            have hnb : n ≤ 2000000 := by have := HFW.out.lots; have := HNR.out; omega
            have hkw1 : IntKind.i64.wrap ((j' : Int) + 1 - 1) = (j' : Int) := by rw [show (j' : Int) + 1 - 1 = (j' : Int) by omega]; exact IntWalk.i64_in _ (by omega)
            have hkw2 : IntKind.i64.wrap (j' : Int) = (j' : Int) := IntWalk.i64_in _ (by omega)
            clear HPV HVC hj0
            go_wp2
            refine wp_region_quiet_lit (by kernel_rfl) (by kernel_rfl) ?_
            repeat (first | go_big_quiet_step (fail) | quiet_step (fail))
            refine wpQuiet_nil ?_
            rintro wq ⟨nq, rfl⟩
            have HBW : Hid (Below w2.heap.size w2 (wr.drewN nq)) := Lib.hid (below_drewN HBQ.out nq)
            go_wp2
            go_roundw
            case rel => exact ⟨j' + 1 + 1, z + p.x.size, by omega, by go_num, rfl, HSZ, HBW⟩
            case measure => first | (simp [intOf]; done) | (simp [intOf]; omega)
    · obtain rfl : n = j := by omega
      have HZT : Hid (Rt.total r.lots = z) := Lib.hid (by rw [← Rt.sizesTo_all, HNR.out]; exact HZ.out)
      have HB0 := Lib.hid (HB2.out.trans (HBr.out.mono HB2.out.size))
      have HE0 : Hid (Rt.enteredTo (dls L) day 0 = 0) := Lib.hid rfl
      go_wp2
      go_loopw [13, 113] (fun v i wr => ∃ (q : Nat) (y : Int), q ≤ L.length ∧ i = .int .i64 (q : Int) ∧ v = .int .i64 y ∧ Hid (Rt.enteredTo (dls L) day q = y) ∧ Hid (Below w'.heap.size w' wr)) (fun _ i _ => L.length - (intOf i).toNat)
      case atStart => exact ⟨0, 0, by omega, rfl, rfl, HE0, HB0⟩
      case round =>
        obtain ⟨q, y, hq, rfl, rfl, HY, HBs⟩ := hrel
        by_cases hql : q < L.length
        · have hqi : (q : Int) < (L.length : Int) := by omega
          have hLb : L.length ≤ 30 := by have := HL30.out; omega
          obtain ⟨bd, od, hA, hbd, hld, _⟩ := (HD.out.below HBs.out).at_ hql
          have hnx := Rt.enteredTo_next (l := dls L) (day := day) (j := q) (by simpa using hql)
          rw [HY.out] at hnx
          have hgl : (dls L)[q]'(by simpa using hql) = L[q].x := by simp
          rw [hgl] at hnx
          have hin1 := Rt.enteredTo_in HH0.out day (q + 1)
          rw [hnx] at hin1
          have hl3 : ((dls L).length : Int) ≤ 30 := by have := HL30.out; simpa using this
          obtain ⟨p, hp⟩ : ∃ p, L[q] = p := ⟨_, rfl⟩
          rw [hp] at hld hnx hin1
          obtain ⟨w4, st4, k4, g4⟩ := st_row (wr.alloc (.cells zcs 24)) wr.heap.size 24 24 zcs (xcs p.x p.A1 p.A2 p.c1 p.c2) (heap_alloc_new wr _) info_deal rfl (by simp [Value.oneCell'])
          have b4 : Below wr.heap.size wr w4 := ((Below.refl _ wr).alloc (Nat.le_refl _) _).grown g4 (by simp) (by intro k e; cases e; exact Nat.le_refl _)
          have HB4 := Lib.hid (HBs.out.trans (b4.mono HBs.out.size))
          obtain ⟨hc4, hf4⟩ := blk_cells k4
          subst hA
          clear hgl hp b4 g4 k4
          by_cases hkd : p.x.kind = 1
          · have q1 : (((p.x.kind : Nat) : Int) == 1) = true := by rw [beq_iff_eq]; omega
            by_cases hdy : p.x.day ≤ day
            · rw [if_pos ⟨hdy, hkd⟩] at hnx hin1
              have hws : IntKind.i64.wrap (y + p.x.size) = y + p.x.size := IntWalk.i64_in _ (by omega)
              have HX := Lib.hid hnx
              clear hnx hin1 hkd hl3
              go_wp2
              go_roundw
              case rel => exact ⟨q + 1, y + p.x.size, by omega, by go_num, rfl, HX, HB4⟩
              case measure => first | (simp [intOf]; done) | (simp [intOf]; omega)
            · rw [if_neg (fun h => hdy h.1)] at hnx hin1
              have HX := Lib.hid hnx
              clear hnx hin1 hkd hl3
              go_wp2
              go_roundw
              case rel => exact ⟨q + 1, y, by omega, by go_num, rfl, HX, HB4⟩
              case measure => first | (simp [intOf]; done) | (simp [intOf]; omega)
          · have q1 : (((p.x.kind : Nat) : Int) == 1) = false := by rw [beq_eq_false_iff_ne]; omega
            rw [if_neg (fun h => hkd h.2)] at hnx hin1
            have HX := Lib.hid hnx
            clear hnx hin1 hkd hl3
            go_wp2
            go_roundw
            case rel => exact ⟨q + 1, y, by omega, by go_num, rfl, HX, HB4⟩
            case measure => first | (simp [intOf]; done) | (simp [intOf]; omega)
        · obtain rfl : q = L.length := by omega
          have hyz : z = y := by rw [← HZT.out, HTOT.out, ← HY.out]; simp
          subst hyz
          have hal := alive_a wr (HE.out.up HBs.out)
          go_wp2_with fail
          refine hal.mono ?_
          clear hal
          rintro e w5 ⟨rfl, b5⟩
          have htt := HTT.out w5 (HBs.out.trans (b5.mono HBs.out.size))
          rw [HZT.out] at htt
          have HB5 := Lib.hid (HBs.out.trans (b5.mono HBs.out.size))
          clear b5
          go_wp2_with fail
          refine htt.mono ?_
          clear htt
          rintro e w6 ⟨rfl, b6⟩
          go_wp2
          go_ret
          exact ⟨rfl, HB5.out.trans (b6.mono HB5.out.size)⟩
end Go.Proofs.YtcffonnijhhhiaaGreatDoor
