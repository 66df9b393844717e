/- Walk: the law RightSame. -/
import Derived.Test.YtcffonnijhhhiaaGreatDoorProg
import Derived.WalkKit
import Derived.WalkLawsBesides
import Derived.WalkSpells
import Derived.Handy
import Derived.Lib.Hide
import Derived.Great.BuildSlice
import Derived.Deep.QuietTactic
import Derived.BigQuiet
import Derived.Deep.RegionHeld3
import Derived.Deep.DeepCutAuto
import Derived.Test.YtcffonnijhhhiaaGreatDoorCm
import Derived.Test.YtcffonnijhhhiaaGreatDoorRa
set_option linter.all false
set_option linter.unusedSimpArgs false
set_option linter.unusedVariables false
set_option linter.unusedSectionVars false
namespace Go.Proofs.YtcffonnijhhhiaaGreatDoor
open Go Go.RowKit Go.Maps Mp
attribute [-simp] Prod.forall Prod.exists
attribute [-go_sem] loadVar storeVar Builtin.append_
attribute [local go_sem] lk_int lk_u8 lk_ints lk_sL lk_sE lk_sS lk_holds

/-- A roll as an argument. -/
structure Rolo (w : World) (B : Nat) (A1 A2 A3 : Option Addr) (L : List Lp) (r : Rt.Roll) : Prop where
  rol : Rol w B A1 A2 A3 L r
  m1 : r.lots.length ≤ maxLen
  m2 : r.eases.length ≤ maxLen
  m3 : r.stints.length ≤ maxLen
  mh : ∀ p ∈ L, p.x.held.length ≤ maxLen
structure Small (r : Rt.Roll) : Prop where
  s1 : r.lots.length ≤ 20
  s2 : r.eases.length ≤ 20
  s3 : r.stints.length ≤ 20
  sh : ∀ p ∈ r.lots, p.held.length ≤ 20
theorem Small.few {r : Rt.Roll} (h : Small r) : Rt.Few r := ⟨by have := h.s1; omega, by have := h.s2; omega, by have := h.s3; omega, fun p hp => by have := h.sh p hp; omega⟩
theorem Rt.sameR_self (r : Rt.Roll) : Rt.sameR r r = true := by
  unfold Rt.sameR
  rw [(Rt.eqBy_iff rfl).2 (fun j hj hj' => by simp [Rt.sameL]), (Rt.eqBy_iff rfl).2 (fun j hj hj' => by simp [Rt.sameE]), (Rt.eqBy_iff rfl).2 (fun j hj hj' => by simp [Rt.sameS])]
  rfl
set_option maxRecDepth 100000 in
set_option maxHeartbeats 8000000 in
theorem rightSame_w (A1 A2 A3 : Option Addr) (c1 c2 c3 : Nat) (L : List Lp) (r : Rt.Roll) (B1 B2 B3 : Option Addr) (d1 d2 d3 : Nat) (M : List Lp) (s : Rt.Roll) (w : World) (hE : Env w) (hr : Rolo w w.heap.size A1 A2 A3 L r) (hs : Rolo w w.heap.size B1 B2 B3 M s) :
    Calls Tryz.prog 6 #[.agg (rowR r A1 A2 A3 c1 c2 c3), .agg (rowR s B1 B2 B3 d1 d2 d3)] w fun e w' => e = .returned (.bool true) ∧ Below w.heap.size w w' := by
  obtain ⟨b0, k1, k2, z0⟩ := hid_box2 (w := w) (rowR r A1 A2 A3 c1 c2 c3) (rowR s B1 B2 B3 d1 d2 d3) 50
  have l1 := ld_row k1 Tryz.underlying50 rfl info_roll
  have l2 := ld_row k2 Tryz.underlying50 rfl info_roll
  obtain ⟨W0, hW0⟩ : ∃ W0, (w.alloc (.cells (rowR r A1 A2 A3 c1 c2 c3) 50 (0, 0))).alloc (.cells (rowR s B1 B2 B3 d1 d2 d3) 50 (0, 0)) = W0 := ⟨_, rfl⟩
  have b1 : Below w.heap.size w (W0.alloc (.cells (rowR r A1 A2 A3 c1 c2 c3 ++ rowR s B1 B2 B3 d1 d2 d3) 50)) := by rw [hW0] at b0; exact b0.trans (((Below.refl _ W0).alloc (Nat.le_refl _) _).mono b0.size)
  have k3 : (W0.alloc (.cells (rowR r A1 A2 A3 c1 c2 c3 ++ rowR s B1 B2 B3 d1 d2 d3) 50)).heap[w.heap.size + 2]? = some (.cells (rowR r A1 A2 A3 c1 c2 c3 ++ rowR s B1 B2 B3 d1 d2 d3) 50 (0, 0)) := by
    rw [hW0] at z0
    exact heap_at z0
  have k1' : (W0.alloc (.cells (rowR r A1 A2 A3 c1 c2 c3 ++ rowR s B1 B2 B3 d1 d2 d3) 50)).heap[w.heap.size]? = some (.cells (rowR r A1 A2 A3 c1 c2 c3) 50 (0, 0)) := by
    rw [hW0] at k1
    rw [Below.heap_alloc _ _ _ (Array.getElem?_eq_some_iff.1 k1).1]
    exact k1
  have k2' : (W0.alloc (.cells (rowR r A1 A2 A3 c1 c2 c3 ++ rowR s B1 B2 B3 d1 d2 d3) 50)).heap[w.heap.size + 1]? = some (.cells (rowR s B1 B2 B3 d1 d2 d3) 50 (0, 0)) := by
    rw [hW0] at k2
    rw [Below.heap_alloc _ _ _ (Array.getElem?_eq_some_iff.1 k2).1]
    exact k2
  obtain ⟨W1, hW1⟩ : ∃ W1, W0.alloc (.cells (rowR r A1 A2 A3 c1 c2 c3 ++ rowR s B1 B2 B3 d1 d2 d3) 50) = W1 := ⟨_, rfl⟩
  have z1 : W1.heap.size = w.heap.size + 3 := by rw [← hW1, World.size_alloc, ← hW0, z0]
  rw [hW1] at b1 k3 k1' k2'
  have HW1 : Hid (((w.alloc (.cells (rowR r A1 A2 A3 c1 c2 c3) 50 (0, 0))).alloc (.cells (rowR s B1 B2 B3 d1 d2 d3) 50 (0, 0))).alloc (.cells (rowR r A1 A2 A3 c1 c2 c3 ++ rowR s B1 B2 B3 d1 d2 d3) 50) = W1) := Lib.hid (by rw [hW0, hW1])
  have HB1 := Lib.hid b1
  have K1 := Lib.hid k1'
  have K2 := Lib.hid k2'
  have HE := Lib.hid hE
  have HR := Lib.hid hr
  have HS := Lib.hid hs
  have HK : Hid (∀ (V : World) (k : Nat), Below W1.heap.size W1 V → k < 2 → ∃ X1 X2 X3 x1 x2 x3 N t, (loadVar 50 ⟨w.heap.size + 1 + 1, k * 3, none⟩).run Tryz.prog V = .ok (.agg (rowR t X1 X2 X3 x1 x2 x3)) V ∧ Hid (Rolo w w.heap.size X1 X2 X3 N t) ∧ Hid ((k = 0 → t = r) ∧ (k = 1 → t = s))) := Lib.hid fun V k hV hk => by
    have kv := (hV.block _ (by omega)).trans k3
    obtain ⟨hc, _⟩ := blk_cells kv
    rcases (show k = 0 ∨ k = 1 by omega) with rfl | rfl
    · refine ⟨A1, A2, A3, c1, c2, c3, L, r, ?_, HR, Lib.hid ⟨fun _ => rfl, fun h => by cases h⟩⟩
      exact run_loadVar_mid V (w.heap.size + 1 + 1) (0 * 3) 50 (rowR r A1 A2 A3 c1 c2 c3).toList _ (fun j v hj => by
        have hj3 : j < 3 := (List.getElem?_eq_some_iff.1 hj).1
        have := hc (0 * 3 + j)
        rw [this, ← hj]
        rcases (show j = 0 ∨ j = 1 ∨ j = 2 by omega) with rfl | rfl | rfl <;> rfl) Tryz.underlying50 rfl info_roll
    · refine ⟨B1, B2, B3, d1, d2, d3, M, s, ?_, HS, Lib.hid ⟨(fun h => by cases h), fun _ => rfl⟩⟩
      exact run_loadVar_mid V (w.heap.size + 1 + 1) (1 * 3) 50 (rowR s B1 B2 B3 d1 d2 d3).toList _ (fun j v hj => by
        have hj3 : j < 3 := (List.getElem?_eq_some_iff.1 hj).1
        have := hc (1 * 3 + j)
        rw [this, ← hj]
        rcases (show j = 0 ∨ j = 1 ∨ j = 2 by omega) with rfl | rfl | rfl <;> rfl) Tryz.underlying50 rfl info_roll
  clear b0 b1 k1 k2 k3 k1' k2' hW0 hW1 hr hs hE z0
  go_enter Tryz.func6, Tryz.ntmps6
  go_wp2
  go_loopw [13] (fun i wr => ∃ k : Nat, k ≤ 2 ∧ i = .int .i64 k ∧ Hid ((0 < k → Small r) ∧ (1 < k → Small s)) ∧ Hid (Below W1.heap.size W1 wr)) (fun i _ => 2 - (intOf i).toNat)
  case atStart => exact ⟨0, by omega, rfl, Lib.hid ⟨(fun h => by omega), (fun h => by omega)⟩, Lib.hid ((show ∀ X, X = W1 → Below W1.heap.size W1 X from fun X h => h ▸ Below.refl _ _) _ HW1.out)⟩
  case round =>
    obtain ⟨k, hk, rfl, HG, HB⟩ := hrel
    clear l1 l2
    by_cases hlt : k < 2
    · have hki : (k : Int) < 2 := by omega
      obtain ⟨X1, X2, X3, x1, x2, x3, N, t, hld, HT, HKT⟩ := HK.out wr k HB.out hlt
      obtain ⟨w4, st4, k4, b4, x4⟩ := new_row wr 50 zcR (rowR t X1 X2 X3 x1 x2 x3) info_roll rfl (by simp [Value.oneCell'])
      have HB4 := Lib.hid (HB.out.trans (b4.mono HB.out.size))
      have K4 := Lib.hid k4
      have X4 := Lib.hid x4
      obtain ⟨hc4, _⟩ := blk_cells k4
      have y0 : _ = some (Value.slice X1 t.lots.length x1) := hc4 0
      have y1 : _ = some (Value.slice X2 t.eases.length x2) := hc4 1
      have y2 : _ = some (Value.slice X3 t.stints.length x3) := hc4 2
      have m1 := HT.out.m1
      have m2 := HT.out.m2
      have m3 := HT.out.m3
      have hal := alive_a w4 (HE.out.up (HB1.out.trans (HB4.out.mono HB1.out.size)))
      clear b4 k4 x4 hc4
      by_cases g1 : t.lots.length ≤ 20
      case neg =>
        have q1 : (20 : Int) < (t.lots.length : Int) := by omega
        clear g1
        go_wp2_with fail
        refine hal.mono ?_
        clear hal
        rintro e w5 ⟨rfl, b5⟩
        go_wp2
        go_ret
        exact ⟨rfl, HB1.out.trans ((HB4.out.trans (b5.mono HB4.out.size)).mono HB1.out.size)⟩
      have q1 : ¬ ((20 : Int) < (t.lots.length : Int)) := by omega
      by_cases g2 : t.eases.length ≤ 20
      case neg =>
        have q2 : (20 : Int) < (t.eases.length : Int) := by omega
        clear g1 g2
        go_wp2_with fail
        refine hal.mono ?_
        clear hal
        rintro e w5 ⟨rfl, b5⟩
        go_wp2
        go_ret
        exact ⟨rfl, HB1.out.trans ((HB4.out.trans (b5.mono HB4.out.size)).mono HB1.out.size)⟩
      have q2 : ¬ ((20 : Int) < (t.eases.length : Int)) := by omega
      by_cases g3 : t.stints.length ≤ 20
      case neg =>
        have q3 : (20 : Int) < (t.stints.length : Int) := by omega
        clear g1 g2 g3
        go_wp2_with fail
        refine hal.mono ?_
        clear hal
        rintro e w5 ⟨rfl, b5⟩
        go_wp2
        go_ret
        exact ⟨rfl, HB1.out.trans ((HB4.out.trans (b5.mono HB4.out.size)).mono HB1.out.size)⟩
      have q3 : ¬ ((20 : Int) < (t.stints.length : Int)) := by omega
      have HG123 := Lib.hid (And.intro g1 (And.intro g2 g3))
      have HBR : Hid (Below w4.heap.size w4 w4) := Lib.hid (Below.refl _ _)
      obtain ⟨n, hn⟩ : ∃ n, t.lots.length = n := ⟨_, rfl⟩
      have hNl : N.length = n := by rw [HT.out.rol.llen, hn]
      have HN := Lib.hid hn
      have HNl := Lib.hid hNl
      rw [hn] at y0 q1 m1 g1
      clear hal hn hNl g2 g3
      go_wp2
      go_loopw [37] (fun i wr => ∃ j : Nat, j ≤ n ∧ i = .int .i64 j ∧ Hid (∀ i (hi : i < N.length), i < j → N[i].x.held.length ≤ 20) ∧ Hid (Below w4.heap.size w4 wr)) (fun i _ => n - (intOf i).toNat)
      case atStart => exact ⟨0, by omega, rfl, Lib.hid (fun j _ h => by omega), HBR⟩
      case round =>
        obtain ⟨j, hj, rfl, HJ, HBj⟩ := hrel
        have HBjw := Lib.hid (HB4.out.trans (HBj.out.mono HB4.out.size))
        have HBj0 := Lib.hid (HB1.out.trans (HBjw.out.mono HB1.out.size))
        by_cases hjn : j < n
        · have hji : (j : Int) < (n : Int) := by omega
          have hjl : j < N.length := by have := HNl.out; omega
          obtain ⟨bi, oi, ei, hbi, q4⟩ := ld_L (HT.out.rol.lots.seg.below HBj0.out) hjl
          have mh := HT.out.mh N[j] (List.getElem_mem hjl)
          subst ei
          obtain ⟨p, hp⟩ : ∃ p, N[j] = p := ⟨_, rfl⟩
          rw [hp] at q4 mh
          have HP := Lib.hid hp
          clear hp
          obtain ⟨w5, st5, k5, b5, x5⟩ := new_row wr 54 zcL (rowL p) info_lot rfl (by simp [Value.oneCell'])
          obtain ⟨hc5, _⟩ := blk_cells k5
          have z2 : _ = some (Value.slice p.A p.x.held.length p.c) := hc5 2
          have HB5 := Lib.hid (HBj.out.trans (b5.mono HBj.out.size))
          have HBw5 := Lib.hid (HBj0.out.trans (b5.mono HBj0.out.size))
          clear hc5 k5 b5 x5
          by_cases g4 : p.x.held.length ≤ 20
          case neg =>
            have q5 : (20 : Int) < (p.x.held.length : Int) := by omega
            have hal := alive_a w5 (HE.out.up HBw5.out)
            clear g4
            go_wp2_with fail
            refine hal.mono ?_
            clear hal
            rintro e w6 ⟨rfl, b6⟩
            go_wp2
            go_ret
            exact ⟨rfl, HBw5.out.trans (b6.mono HBw5.out.size)⟩
          have q5 : ¬ ((20 : Int) < (p.x.held.length : Int)) := by omega
          have HG4 := Lib.hid g4
          clear g4
          go_wp2
          go_roundw
          case rel => exact ⟨j + 1, by omega, by go_num, Lib.hid (fun i hi h => by
            by_cases e : i = j
            · subst e
              rw [HP.out]
              exact HG4.out
            · exact HJ.out i hi (by omega)), HB5⟩
          case measure => first | (simp [intOf]; done) | (simp [intOf]; omega)
        · obtain rfl : j = n := by omega
          have HSM : Hid (Small t) := Lib.hid ⟨HG123.out.1, HG123.out.2.1, HG123.out.2.2, fun x hx => by
            rw [← HT.out.rol.is] at hx
            obtain ⟨p, hp, rfl⟩ := List.mem_map.1 hx
            obtain ⟨i, hi, rfl⟩ := List.mem_iff_getElem.1 hp
            exact HJ.out i hi (by have := HNl.out; omega)⟩
          go_wp2
          go_roundw
          case rel => exact ⟨k + 1, by omega, by go_num, Lib.hid ⟨fun _ => by
            by_cases e : k = 0
            · rw [← HKT.out.1 e]
              exact HSM.out
            · exact HG.out.1 (by omega), fun h => by
            rw [← HKT.out.2 (by omega)]
            exact HSM.out⟩, HBjw⟩
          case measure => first | (simp [intOf]; done) | (simp [intOf]; omega)
    · obtain rfl : k = 2 := by omega
      have fr : Hid (Rt.Few r) := Lib.hid (HG.out.1 (by omega)).few
      have fs : Hid (Rt.Few s) := Lib.hid (HG.out.2 (by omega)).few
      have HBw := Lib.hid (HB1.out.trans (HB.out.mono HB1.out.size))
      have HLD : Hid (∀ V : World, Below w.heap.size w V → (V.heap[w.heap.size]? = some (.cells (rowR r A1 A2 A3 c1 c2 c3) 50 (0, 0)) ∧ V.heap[w.heap.size + 1]? = some (.cells (rowR s B1 B2 B3 d1 d2 d3) 50 (0, 0))) → ((loadVar 50 ⟨w.heap.size, 0, none⟩).run Tryz.prog V = .ok (.agg (rowR r A1 A2 A3 c1 c2 c3)) V ∧ (loadVar 50 ⟨w.heap.size + 1, 0, none⟩).run Tryz.prog V = .ok (.agg (rowR s B1 B2 B3 d1 d2 d3)) V)) := Lib.hid fun V _ h => ⟨ld_row h.1 Tryz.underlying50 rfl info_roll, ld_row h.2 Tryz.underlying50 rfl info_roll⟩
      have HBX : Hid (∀ V : World, Below W1.heap.size W1 V → ((loadVar 50 ⟨w.heap.size, 0, none⟩).run Tryz.prog V = .ok (.agg (rowR r A1 A2 A3 c1 c2 c3)) V ∧ (loadVar 50 ⟨w.heap.size + 1, 0, none⟩).run Tryz.prog V = .ok (.agg (rowR s B1 B2 B3 d1 d2 d3)) V)) := Lib.hid fun V hV => HLD.out V (HB1.out.trans (hV.mono HB1.out.size)) ⟨(hV.block _ (by omega)).trans K1.out, (hV.block _ (by omega)).trans K2.out⟩
      have b0 : Below W1.heap.size W1 wr.drew := below_drew HB.out
      have hal := alive_a wr.drew (HE.out.up (HB1.out.trans (b0.mono HB1.out.size)))
      have HRS : Hid (∀ V : World, Below W1.heap.size W1 V → Calls Tryz.prog 42 #[.agg (rowR r A1 A2 A3 c1 c2 c3), .agg (rowR s B1 B2 B3 d1 d2 d3)] V fun e w' => e = .returned (.bool (Rt.sameR r s)) ∧ Below V.heap.size V w') := Lib.hid fun V hV => by
        have hb := HB1.out.trans (hV.mono HB1.out.size)
        exact sameR_a A1 A2 A3 B1 B2 B3 c1 c2 c3 d1 d2 d3 L M r s V (HR.out.rol.up hb) (HS.out.rol.up hb) fr.out fs.out
      have HRR : Hid (∀ V : World, Below W1.heap.size W1 V → Calls Tryz.prog 42 #[.agg (rowR r A1 A2 A3 c1 c2 c3), .agg (rowR r A1 A2 A3 c1 c2 c3)] V fun e w' => e = .returned (.bool true) ∧ Below V.heap.size V w') := Lib.hid fun V hV => by
        have hb := HB1.out.trans (hV.mono HB1.out.size)
        have := sameR_a A1 A2 A3 A1 A2 A3 c1 c2 c3 c1 c2 c3 L L r r V (HR.out.rol.up hb) (HR.out.rol.up hb) fr.out fr.out
        rwa [Rt.sameR_self] at this
      have HRF : Hid (∀ V : World, Below W1.heap.size W1 V → Calls Tryz.prog 43 #[.agg (rowR r A1 A2 A3 c1 c2 c3), .agg (rowR s B1 B2 B3 d1 d2 d3)] V fun e w' => e = .returned (.bool (Rt.sameR r s)) ∧ Below V.heap.size V w') := Lib.hid fun V hV => by
        have hb := HB1.out.trans (hV.mono HB1.out.size)
        exact same_h A1 A2 A3 B1 B2 B3 c1 c2 c3 d1 d2 d3 L M r s V (HR.out.rol.up hb) (HS.out.rol.up hb) fr.out
      obtain ⟨v, hv⟩ : ∃ v, Rt.sameR r s = v := ⟨_, rfl⟩
      rw [hv] at HRS HRF
      clear hv HLD
      go_wp2
      refine wp_region_held_drew (S := fun V => ((loadVar 50 ⟨w.heap.size, 0, none⟩).run Tryz.prog V = .ok (.agg (rowR r A1 A2 A3 c1 c2 c3)) V ∧ (loadVar 50 ⟨w.heap.size + 1, 0, none⟩).run Tryz.prog V = .ok (.agg (rowR s B1 B2 B3 d1 d2 d3)) V)) (by kernel_rfl) (HBX.out _ b0) (fun hHeld => ?_)
      refine wpAnyH_ready (rs := [0]) (by kernel_rfl) (by simp) ?_
      refine readyH (some 48) rfl rfl (fun K hK => ?_) AllReadyH.nil
      go_simp
      refine hal.mono ?_
      clear hal
      rintro e w2 ⟨rfl, g2⟩
      have bb2 := b0.trans (g2.mono b0.size)
      refine hK _ _ (HBX.out _ bb2) (fun hHeld => ?_)
      clear hK K
      try simp only [Act.put, List.setIfInBounds_toArray, List.set_cons_zero, List.set_cons_succ]
      refine takeH 1 (some 49) (v := ?v1) rfl rfl (by kernel_rfl) (by kernel_rfl) (by kernel_rfl) (fun _ _ _ h => h) (Or.inl ⟨by rfl, fun W hW => ?hy1⟩) (by assumption) ?hr1
      case hy1 => go_simp; try with_reducible rfl
      try simp only [Act.put, List.setIfInBounds_toArray, List.set_cons_zero, List.set_cons_succ]
      refine takeH 2 (some 50) (v := ?v2) rfl rfl (by kernel_rfl) (by kernel_rfl) (by kernel_rfl) (fun _ _ _ h => h) (Or.inl ⟨by rfl, fun W hW => ?hy2⟩) (by assumption) ?hr2
      case hy2 => obtain ⟨hW1, hW2⟩ := hW; go_simp; try with_reducible rfl
      try simp only [Act.put, List.setIfInBounds_toArray, List.set_cons_zero, List.set_cons_succ]
      refine takeH 3 (some 51) (v := ?v3) rfl rfl (by kernel_rfl) (by kernel_rfl) (by kernel_rfl) (fun _ _ _ h => h) (Or.inl ⟨by rfl, fun W hW => ?hy3⟩) (by assumption) ?hr3
      case hy3 => obtain ⟨hW1, hW2⟩ := hW; go_simp; try with_reducible rfl
      try simp only [Act.put, List.setIfInBounds_toArray, List.set_cons_zero, List.set_cons_succ]
      refine takeH 5 (some 53) (v := ?v4) rfl rfl (by kernel_rfl) (by kernel_rfl) (by kernel_rfl) (fun _ _ _ h => h) (Or.inl ⟨by rfl, fun W hW => ?hy4⟩) (by assumption) ?hr4
      case hy4 => obtain ⟨hW1, hW2⟩ := hW; go_simp; try with_reducible rfl
      try simp only [Act.put, List.setIfInBounds_toArray, List.set_cons_zero, List.set_cons_succ]
      refine takeH 6 (some 54) (v := ?v5) rfl rfl (by kernel_rfl) (by kernel_rfl) (by kernel_rfl) (fun _ _ _ h => h) (Or.inl ⟨by rfl, fun W hW => ?hy5⟩) (by assumption) ?hr5
      case hy5 => obtain ⟨hW1, hW2⟩ := hW; go_simp; try with_reducible rfl
      try simp only [Act.put, List.setIfInBounds_toArray, List.set_cons_zero, List.set_cons_succ]
      refine wpAnyH_ready (rs := [4]) (by kernel_rfl) (by simp) ?_
      refine readyH (some 52) rfl rfl (fun K hK => ?_) AllReadyH.nil
      go_simp
      refine (HRS.out _ bb2).mono ?_
      rintro e w3 ⟨rfl, g3⟩
      have bb3 := bb2.trans (g3.mono bb2.size)
      refine hK _ _ (HBX.out _ bb3) (fun hHeld => ?_)
      clear hK K
      try simp only [Act.put, List.setIfInBounds_toArray, List.set_cons_zero, List.set_cons_succ]
      refine wpAnyH_ready (rs := [7]) (by kernel_rfl) (by simp) ?_
      refine readyH (some 55) rfl rfl (fun K hK => ?_) AllReadyH.nil
      go_simp
      refine (HRF.out _ bb3).mono ?_
      rintro e w4 ⟨rfl, g4⟩
      have bb4 := bb3.trans (g4.mono bb3.size)
      refine hK _ _ (HBX.out _ bb4) (fun hHeld => ?_)
      clear hK K
      try simp only [Act.put, List.setIfInBounds_toArray, List.set_cons_zero, List.set_cons_succ]
      refine takeH 8 (some 56) (v := ?v6) rfl rfl (by kernel_rfl) (by kernel_rfl) (by kernel_rfl) (fun _ _ _ h => h) (Or.inl ⟨by rfl, fun W hW => ?hy6⟩) (by assumption) ?hr6
      case hy6 => go_simp; try with_reducible rfl
      try simp only [Act.put, List.setIfInBounds_toArray, List.set_cons_zero, List.set_cons_succ]
      refine takeH 9 (some 57) (v := ?v7) rfl rfl (by kernel_rfl) (by kernel_rfl) (by kernel_rfl) (fun _ _ _ h => h) (Or.inl ⟨by rfl, fun W hW => ?hy7⟩) (by assumption) ?hr7
      case hy7 => go_simp; try with_reducible rfl
      try simp only [Act.put, List.setIfInBounds_toArray, List.set_cons_zero, List.set_cons_succ]
      refine takeH 10 (some 58) (v := ?v8) rfl rfl (by kernel_rfl) (by kernel_rfl) (by kernel_rfl) (fun _ _ _ h => h) (Or.inl ⟨by rfl, fun W hW => ?hy8⟩) (by assumption) ?hr8
      case hy8 => go_simp; try with_reducible rfl
      try simp only [Act.put, List.setIfInBounds_toArray, List.set_cons_zero, List.set_cons_succ]
      refine takeH 11 (some 59) (v := ?v9) rfl rfl (by kernel_rfl) (by kernel_rfl) (by kernel_rfl) (fun _ _ _ h => h) (Or.inl ⟨by rfl, fun W hW => ?hy9⟩) (by assumption) ?hr9
      case hy9 => obtain ⟨hW1, hW2⟩ := hW; go_simp; try with_reducible rfl
      try simp only [Act.put, List.setIfInBounds_toArray, List.set_cons_zero, List.set_cons_succ]
      refine takeH 12 (some 60) (v := ?v10) rfl rfl (by kernel_rfl) (by kernel_rfl) (by kernel_rfl) (fun _ _ _ h => h) (Or.inl ⟨by rfl, fun W hW => ?hy10⟩) (by assumption) ?hr10
      case hy10 => obtain ⟨hW1, hW2⟩ := hW; go_simp; try with_reducible rfl
      try simp only [Act.put, List.setIfInBounds_toArray, List.set_cons_zero, List.set_cons_succ]
      refine wpAnyH_ready (rs := [13]) (by kernel_rfl) (by simp) ?_
      refine readyH (some 61) rfl rfl (fun K hK => ?_) AllReadyH.nil
      go_simp
      refine (HRR.out _ bb4).mono ?_
      rintro e w5 ⟨rfl, g5⟩
      have bb5 := bb4.trans (g5.mono bb4.size)
      refine hK _ _ (HBX.out _ bb5) (fun hHeld => ?_)
      clear hK K
      try simp only [Act.put, List.setIfInBounds_toArray, List.set_cons_zero, List.set_cons_succ]
      refine takeH 14 (some 62) (v := ?v11) rfl rfl (by kernel_rfl) (by kernel_rfl) (by kernel_rfl) (fun _ _ _ h => h) (Or.inl ⟨by rfl, fun W hW => ?hy11⟩) (by assumption) ?hr11
      case hy11 => go_simp; try with_reducible rfl
      try simp only [Act.put, List.setIfInBounds_toArray, List.set_cons_zero, List.set_cons_succ]
      refine takeH 15 (some 4) (v := ?v12) rfl rfl (by kernel_rfl) (by kernel_rfl) (by kernel_rfl) (fun _ _ _ h => h) (Or.inl ⟨by rfl, fun W hW => ?hy12⟩) (by assumption) ?hr12
      case hy12 => go_simp; try with_reducible rfl
      try simp only [Act.put, List.setIfInBounds_toArray, List.set_cons_zero, List.set_cons_succ]
      refine wpAnyH_done (by kernel_rfl) ?_ _
      go_wp2
      go_ret
      exact ⟨by cases v <;> rfl, HB1.out.trans (bb5.mono HB1.out.size)⟩
end Go.Proofs.YtcffonnijhhhiaaGreatDoor
