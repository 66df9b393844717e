/- Walk: the law DeedMoves. -/
import Derived.Test.YtgbpekeoegfjpaaGreatDoorProg
import Derived.WalkKit
import Derived.WalkLawsBesides
import Derived.WalkSpells
import Derived.Handy
import Derived.Lib.Hide
import Derived.Great.BuildSlice
import Derived.Deep.QuietTactic
import Derived.BigQuiet
import Derived.Deep.RegionHeld3
import Derived.Deep.DeepCutAuto
import Derived.Test.YtgbpekeoegfjpaaGreatDoorFGa
import Derived.Test.YtgbpekeoegfjpaaGreatDoorFF
import Derived.Test.YtgbpekeoegfjpaaGreatDoorPlX
namespace Go.Proofs.YtgbpekeoegfjpaaGreatDoor
open Go.RowKit
attribute [-go_sem] run_equalIn_agg storeVar loadVar Builtin.append_
attribute [local go_sem] lv_int lv_bool lv_u8 lv_string lv_strings lv_stas lv_pars lv_vars sv_int

theorem isAgg_sta (w : World) : (isAgg 50).run Tryz.prog w = .ok true w := by
  unfold isAgg
  rw [Sem.run_bind, run_underlying Tryz.underlying50 w]
  rfl
theorem info_sta : (Tryz.prog.info? 50).map (·.size) = some 2 := by kernel_rfl
theorem info_stas1 : (Tryz.prog.info? 23).map (·.size) = some 1 := by kernel_rfl
theorem lv_sta (g i : Nat) (w : World) : (loadVar 50 ⟨g, i, none⟩).run Tryz.prog w = (do let a ← load ⟨g, i, none⟩; let b ← load ⟨g, i + 1, none⟩; pure (.agg #[a, b]) : Sem Value).run Tryz.prog w := by
  simp only [loadVar, Sem.run_bind, isAgg_sta, size_of info_sta, loadCells, loadCellsFrom, Addr.add, Result.andThen_ok, if_true, Sem.run_pure, Nat.add_zero, Nat.zero_add]
  simp [at_assoc]
theorem sv_sta (g i : Nat) (s : ByteArray) (x : Int) (w : World) : (storeVar 50 ⟨g, i, none⟩ (.agg #[.string s, .int .i64 x])).run Tryz.prog w = (do store ⟨g, i, none⟩ (.string s); store ⟨g, i + 1, none⟩ (.int .i64 x) : Sem Unit).run Tryz.prog w := by
  simp [storeVar, Sem.run_bind, size_of info_sta, Value.cells, storeCells, Addr.add]
theorem sv_stas (g i : Nat) (A : Option Addr) (n c : Nat) (w : World) : (storeVar 23 ⟨g, i, none⟩ (.slice A n c)).run Tryz.prog w = (store ⟨g, i, none⟩ (.slice A n c)).run Tryz.prog w := by
  simp [storeVar, Sem.run_bind, size_of info_stas1, Value.cells, storeCells, Addr.add]
attribute [local go_sem] lv_sta sv_stas
/-- A field laid and stored. -/
theorem sp_fld (cs : Array Value) (hs : cs.size = 4) (h1 : cs.all (·.oneCell') = true) (w : World) :
    ∃ W, (storeVar 28 ⟨w.heap.size, 0, none⟩ (.agg cs)).run Tryz.prog (w.alloc (.cells #[.slice none 0 0, .slice none 0 0, .slice none 0 0, .slice none 0 0] 28)) = .ok () W ∧ W.heap[w.heap.size]? = some (.cells cs 28 (0, 0)) ∧ Below w.heap.size w W := by
  have kn := heap_alloc_new w (.cells #[.slice none 0 0, .slice none 0 0, .slice none 0 0, .slice none 0 0] 28)
  have hb : Below w.heap.size w (w.alloc (.cells #[.slice none 0 0, .slice none 0 0, .slice none 0 0, .slice none 0 0] 28)) := (Below.refl _ w).alloc (Nat.le_refl _) _
  obtain ⟨W2, st2, k2, hg2⟩ := st_row _ w.heap.size _ 28 _ cs kn (by rw [hs]; exact info_fld) (by rw [hs]; rfl) h1
  exact ⟨W2, st2, k2, hb.grown hg2 hb.size (fun k e => by cases e; omega)⟩
theorem moved_len (f : Pl.Fld) (dx : Int) : (Pl.moved f dx).st.length = f.st.length := by simp [Pl.moved]
theorem moved_small {f : Pl.Fld} {dx : Int} (h : Small f) : Small (Pl.moved f dx) := by
  refine ⟨by rw [moved_len]; exact h.st, h.li, h.pa, h.va, ?_, h.ln, h.pn⟩
  intro s hs
  unfold Pl.moved at hs
  obtain ⟨t, ht, rfl⟩ := List.mem_map.1 hs
  exact h.sn t ht
theorem moved_checkE {f : Pl.Fld} {dx : Int} (h0 : Pl.fieldE f = 0) (h1 : Pl.fieldE (Pl.moved f dx) = 0) (c : Pl.Cal) : Pl.checkCallE (Pl.moved f dx) c = Pl.checkCallE f c := by
  unfold Pl.checkCallE
  rw [if_pos h0, if_pos h1, Pl.move_call]
theorem moved_boundsE {f : Pl.Fld} {dx : Int} (h0 : Pl.fieldE f = 0) (h1 : Pl.fieldE (Pl.moved f dx) = 0) (c : Pl.Cal) (r : Int) : Pl.boundsE (Pl.moved f dx) c r = Pl.boundsE f c r := by
  unfold Pl.boundsE
  rw [moved_checkE h0 h1]
theorem moved_boundsV {f : Pl.Fld} {dx : Int} (h0 : Pl.fieldE f = 0) (h1 : Pl.fieldE (Pl.moved f dx) = 0) (c : Pl.Cal) : Pl.boundsV (Pl.moved f dx) c 3 = Pl.boundsV f c 3 := by
  unfold Pl.boundsV
  rw [moved_boundsE h0 h1]
  split
  · rename_i h
    rw [boundsE_in f c (by decide)] at h
    exact Pl.move_bounds (tab_of h).2 3
  · rfl
theorem moved_take {f : Pl.Fld} {dx : Int} {k : Nat} (h : k < f.st.length) : (Pl.moved f dx).st.take (k + 1) = (Pl.moved f dx).st.take k ++ [(f.st[k].1, f.st[k].2 + dx)] := by
  rw [List.take_succ_eq_append_getElem (by rw [moved_len]; exact h)]
  simp [Pl.moved]
/-- A station laid and stored. -/
theorem sp_sta (nm : ByteArray) (x : Int) (w : World) :
    ∃ W, (storeVar 50 ⟨w.heap.size, 0, none⟩ (.agg #[.string nm, .int .i64 x])).run Tryz.prog (w.alloc (.cells #[.string ⟨#[]⟩, .int .i64 0] 50)) = .ok () W ∧ W.heap[w.heap.size]? = some (.cells #[.string nm, .int .i64 x] 50 (0, 0)) ∧ Below w.heap.size w W := by
  have kn := heap_alloc_new w (.cells #[.string ⟨#[]⟩, .int .i64 0] 50)
  have hb : Below w.heap.size w (w.alloc (.cells #[.string ⟨#[]⟩, .int .i64 0] 50)) := (Below.refl _ w).alloc (Nat.le_refl _) _
  obtain ⟨W2, st2, k2, hg2⟩ := st_row _ w.heap.size _ 50 _ #[.string nm, .int .i64 x] kn info_sta rfl (by simp [Value.oneCell'])
  exact ⟨W2, st2, k2, hb.grown hg2 hb.size (fun k e => by cases e; omega)⟩
/- The law, where it asks nothing. -/
set_option maxRecDepth 100000 in
set_option maxHeartbeats 4000000 in
theorem deedMoves_idle (A1 A2 A3 A4 : Option Addr) (c1 c2 c3 c4 : Nat) (f : Pl.Fld) (c : Pl.Cal) (dx : Int) (w : World) (hEn : Env w) (hf : FldS w w.heap.size A1 A2 A3 A4 f) (hc : Caps c1 c2 c3 c4 f)
    (h : Pl.vast f = true ∨ Pl.fieldE f ≠ 0 ∨ dx < -100000 ∨ 100000 < dx) :
    Calls Tryz.prog 5 #[.agg #[.slice A1 f.st.length c1, .slice A2 f.li.length c2, .slice A3 f.pa.length c3, .slice A4 f.va.length c4], .agg #[.int .u8 (c.kind : Int), .int .i64 c.lim, .int .i64 c.oth, .int .i64 c.fr, .int .i64 c.till, .int .i64 c.size, .int .i64 c.er, .int .i64 c.crs.b, .int .i64 c.crs.n, .int .i64 c.crs.l, .int .i64 c.crs.y, .int .i64 c.crs.x, .int .i64 c.crs.s], .int .i64 dx] w fun e w' => e = .returned (.bool true) ∧ Below w.heap.size w w' := by
  have kf := (heap_alloc_new w (.cells #[.slice A1 f.st.length c1, .slice A2 f.li.length c2, .slice A3 f.pa.length c3, .slice A4 f.va.length c4] 28))
  have kc := (heap_alloc_new (w.alloc (.cells #[.slice A1 f.st.length c1, .slice A2 f.li.length c2, .slice A3 f.pa.length c3, .slice A4 f.va.length c4] 28)) (.cells #[.int .u8 (c.kind : Int), .int .i64 c.lim, .int .i64 c.oth, .int .i64 c.fr, .int .i64 c.till, .int .i64 c.size, .int .i64 c.er, .int .i64 c.crs.b, .int .i64 c.crs.n, .int .i64 c.crs.l, .int .i64 c.crs.y, .int .i64 c.crs.x, .int .i64 c.crs.s] 48))
  rw [World.size_alloc] at kc
  have kf := (Below.heap_alloc _ (.cells #[.int .u8 (c.kind : Int), .int .i64 c.lim, .int .i64 c.oth, .int .i64 c.fr, .int .i64 c.till, .int .i64 c.size, .int .i64 c.er, .int .i64 c.crs.b, .int .i64 c.crs.n, .int .i64 c.crs.l, .int .i64 c.crs.y, .int .i64 c.crs.x, .int .i64 c.crs.s] 48) _ (Array.getElem?_eq_some_iff.1 kf).1).trans kf
  have l01 := ld_row kf Tryz.underlying28 rfl info_fld
  have l02 := ld_row kc Tryz.underlying48 rfl info_cal
  have hall : Below w.heap.size w ((w.alloc (.cells #[.slice A1 f.st.length c1, .slice A2 f.li.length c2, .slice A3 f.pa.length c3, .slice A4 f.va.length c4] 28)).alloc (.cells #[.int .u8 (c.kind : Int), .int .i64 c.lim, .int .i64 c.oth, .int .i64 c.fr, .int .i64 c.till, .int .i64 c.size, .int .i64 c.er, .int .i64 c.crs.b, .int .i64 c.crs.n, .int .i64 c.crs.l, .int .i64 c.crs.y, .int .i64 c.crs.x, .int .i64 c.crs.s] 48)) := ((Below.refl _ w).alloc (Nat.le_refl _) _).alloc (by simp) _
  by_cases h1 : Pl.vast f = true
  · have hv := Lib.hid h1
    clear h h1
    go_enter Tryz.func5, Tryz.ntmps5
    go_wp2_with fail
    refine (vast_a A1 A2 A3 A4 c1 c2 c3 c4 f _ (hf.up hall) true hv).mono ?_
    rintro e w1 ⟨rfl, hx⟩
    replace kf := (hx.block _ (Array.getElem?_eq_some_iff.1 kf).1).trans kf; replace kc := (hx.block _ (Array.getElem?_eq_some_iff.1 kc).1).trans kc; replace hall : Below w.heap.size w _ := hall.trans (hx.mono hall.size); (try clear l01 l02); have l01 := ld_row kf Tryz.underlying28 rfl info_fld; have l02 := ld_row kc Tryz.underlying48 rfl info_cal; (try clear hcf hff hcc hfc); obtain ⟨hcf, hff⟩ := blk_cells kf; obtain ⟨hcc, hfc⟩ := blk_cells kc; clear hx
    go_wp2_with fail
    refine (spoken_a _ (hEn.up hall)).mono ?_
    rintro e w7 ⟨rfl, hx⟩
    replace kf := (hx.block _ (Array.getElem?_eq_some_iff.1 kf).1).trans kf; replace kc := (hx.block _ (Array.getElem?_eq_some_iff.1 kc).1).trans kc; replace hall : Below w.heap.size w _ := hall.trans (hx.mono hall.size); (try clear l01 l02); have l01 := ld_row kf Tryz.underlying28 rfl info_fld; have l02 := ld_row kc Tryz.underlying48 rfl info_cal; (try clear hcf hff hcc hfc); obtain ⟨hcf, hff⟩ := blk_cells kf; obtain ⟨hcc, hfc⟩ := blk_cells kc; clear hx
    go_wp2_with fail
    go_ret
    exact ⟨rfl, hall⟩
  · have h1' : Pl.vast f = false := by simpa using h1
    have hm := Pl.vast_small h1'
    have hv := Lib.hid h1'
    clear h1 h1'
    obtain ⟨E, hE⟩ : ∃ E, Pl.fieldE f = E := ⟨_, rfl⟩
    have HE := Lib.hid hE
    by_cases h0 : E = 0
    · subst h0
      by_cases h2 : dx < -100000
      · clear h hE
        go_enter Tryz.func5, Tryz.ntmps5
        go_wp2_with fail
        refine (vast_a A1 A2 A3 A4 c1 c2 c3 c4 f _ (hf.up hall) false hv).mono ?_
        rintro e w1 ⟨rfl, hx⟩
        replace kf := (hx.block _ (Array.getElem?_eq_some_iff.1 kf).1).trans kf; replace kc := (hx.block _ (Array.getElem?_eq_some_iff.1 kc).1).trans kc; replace hall : Below w.heap.size w _ := hall.trans (hx.mono hall.size); (try clear l01 l02); have l01 := ld_row kf Tryz.underlying28 rfl info_fld; have l02 := ld_row kc Tryz.underlying48 rfl info_cal; (try clear hcf hff hcc hfc); obtain ⟨hcf, hff⟩ := blk_cells kf; obtain ⟨hcc, hfc⟩ := blk_cells kc; clear hx
        go_wp2_with fail
        refine (checkField_h A1 A2 A3 A4 c1 c2 c3 c4 f 0 _ HE (hf.up hall) hm hc).mono ?_
        rintro e w2 ⟨rfl, hx⟩
        replace kf := (hx.block _ (Array.getElem?_eq_some_iff.1 kf).1).trans kf; replace kc := (hx.block _ (Array.getElem?_eq_some_iff.1 kc).1).trans kc; replace hall : Below w.heap.size w _ := hall.trans (hx.mono hall.size); (try clear l01 l02); have l01 := ld_row kf Tryz.underlying28 rfl info_fld; have l02 := ld_row kc Tryz.underlying48 rfl info_cal; (try clear hcf hff hcc hfc); obtain ⟨hcf, hff⟩ := blk_cells kf; obtain ⟨hcc, hfc⟩ := blk_cells kc; clear hx
        go_wp2_with fail
        refine (spoken_a _ (hEn.up hall)).mono ?_
        rintro e w7 ⟨rfl, hx⟩
        replace kf := (hx.block _ (Array.getElem?_eq_some_iff.1 kf).1).trans kf; replace kc := (hx.block _ (Array.getElem?_eq_some_iff.1 kc).1).trans kc; replace hall : Below w.heap.size w _ := hall.trans (hx.mono hall.size); (try clear l01 l02); have l01 := ld_row kf Tryz.underlying28 rfl info_fld; have l02 := ld_row kc Tryz.underlying48 rfl info_cal; (try clear hcf hff hcc hfc); obtain ⟨hcf, hff⟩ := blk_cells kf; obtain ⟨hcc, hfc⟩ := blk_cells kc; clear hx
        go_wp2_with fail
        go_ret
        exact ⟨rfl, hall⟩
      · have h3 : 100000 < dx := by
          rcases h with h | h | h | h
          · exact absurd (hv.out.symm.trans h) (by decide)
          · exact absurd hE h
          · exact absurd h h2
          · exact h
        clear h hE
        go_enter Tryz.func5, Tryz.ntmps5
        go_wp2_with fail
        refine (vast_a A1 A2 A3 A4 c1 c2 c3 c4 f _ (hf.up hall) false hv).mono ?_
        rintro e w1 ⟨rfl, hx⟩
        replace kf := (hx.block _ (Array.getElem?_eq_some_iff.1 kf).1).trans kf; replace kc := (hx.block _ (Array.getElem?_eq_some_iff.1 kc).1).trans kc; replace hall : Below w.heap.size w _ := hall.trans (hx.mono hall.size); (try clear l01 l02); have l01 := ld_row kf Tryz.underlying28 rfl info_fld; have l02 := ld_row kc Tryz.underlying48 rfl info_cal; (try clear hcf hff hcc hfc); obtain ⟨hcf, hff⟩ := blk_cells kf; obtain ⟨hcc, hfc⟩ := blk_cells kc; clear hx
        go_wp2_with fail
        refine (checkField_h A1 A2 A3 A4 c1 c2 c3 c4 f 0 _ HE (hf.up hall) hm hc).mono ?_
        rintro e w2 ⟨rfl, hx⟩
        replace kf := (hx.block _ (Array.getElem?_eq_some_iff.1 kf).1).trans kf; replace kc := (hx.block _ (Array.getElem?_eq_some_iff.1 kc).1).trans kc; replace hall : Below w.heap.size w _ := hall.trans (hx.mono hall.size); (try clear l01 l02); have l01 := ld_row kf Tryz.underlying28 rfl info_fld; have l02 := ld_row kc Tryz.underlying48 rfl info_cal; (try clear hcf hff hcc hfc); obtain ⟨hcf, hff⟩ := blk_cells kf; obtain ⟨hcc, hfc⟩ := blk_cells kc; clear hx
        go_wp2_with fail
        refine (spoken_a _ (hEn.up hall)).mono ?_
        rintro e w7 ⟨rfl, hx⟩
        replace kf := (hx.block _ (Array.getElem?_eq_some_iff.1 kf).1).trans kf; replace kc := (hx.block _ (Array.getElem?_eq_some_iff.1 kc).1).trans kc; replace hall : Below w.heap.size w _ := hall.trans (hx.mono hall.size); (try clear l01 l02); have l01 := ld_row kf Tryz.underlying28 rfl info_fld; have l02 := ld_row kc Tryz.underlying48 rfl info_cal; (try clear hcf hff hcc hfc); obtain ⟨hcf, hff⟩ := blk_cells kf; obtain ⟨hcc, hfc⟩ := blk_cells kc; clear hx
        go_wp2_with fail
        go_ret
        exact ⟨rfl, hall⟩
    · have q0 : (E != 0) = true := by simpa using h0
      clear h hE
      go_enter Tryz.func5, Tryz.ntmps5
      go_wp2_with fail
      refine (vast_a A1 A2 A3 A4 c1 c2 c3 c4 f _ (hf.up hall) false hv).mono ?_
      rintro e w1 ⟨rfl, hx⟩
      replace kf := (hx.block _ (Array.getElem?_eq_some_iff.1 kf).1).trans kf; replace kc := (hx.block _ (Array.getElem?_eq_some_iff.1 kc).1).trans kc; replace hall : Below w.heap.size w _ := hall.trans (hx.mono hall.size); (try clear l01 l02); have l01 := ld_row kf Tryz.underlying28 rfl info_fld; have l02 := ld_row kc Tryz.underlying48 rfl info_cal; (try clear hcf hff hcc hfc); obtain ⟨hcf, hff⟩ := blk_cells kf; obtain ⟨hcc, hfc⟩ := blk_cells kc; clear hx
      go_wp2_with fail
      refine (checkField_h A1 A2 A3 A4 c1 c2 c3 c4 f E _ HE (hf.up hall) hm hc).mono ?_
      rintro e w2 ⟨rfl, hx⟩
      replace kf := (hx.block _ (Array.getElem?_eq_some_iff.1 kf).1).trans kf; replace kc := (hx.block _ (Array.getElem?_eq_some_iff.1 kc).1).trans kc; replace hall : Below w.heap.size w _ := hall.trans (hx.mono hall.size); (try clear l01 l02); have l01 := ld_row kf Tryz.underlying28 rfl info_fld; have l02 := ld_row kc Tryz.underlying48 rfl info_cal; (try clear hcf hff hcc hfc); obtain ⟨hcf, hff⟩ := blk_cells kf; obtain ⟨hcc, hfc⟩ := blk_cells kc; clear hx
      go_wp2_with fail
      refine (spoken_a _ (hEn.up hall)).mono ?_
      rintro e w7 ⟨rfl, hx⟩
      replace kf := (hx.block _ (Array.getElem?_eq_some_iff.1 kf).1).trans kf; replace kc := (hx.block _ (Array.getElem?_eq_some_iff.1 kc).1).trans kc; replace hall : Below w.heap.size w _ := hall.trans (hx.mono hall.size); (try clear l01 l02); have l01 := ld_row kf Tryz.underlying28 rfl info_fld; have l02 := ld_row kc Tryz.underlying48 rfl info_cal; (try clear hcf hff hcc hfc); obtain ⟨hcf, hff⟩ := blk_cells kf; obtain ⟨hcc, hfc⟩ := blk_cells kc; clear hx
      go_wp2_with fail
      go_ret
      exact ⟨rfl, hall⟩
set_option maxRecDepth 100000 in
set_option maxHeartbeats 8000000 in
theorem deedMoves_ok (A1 A2 A3 A4 : Option Addr) (c1 c2 c3 c4 : Nat) (f : Pl.Fld) (c : Pl.Cal) (dx : Int) (w : World) (hEn : Env w) (hf : FldS w w.heap.size A1 A2 A3 A4 f) (hm : Small f) (hc : Caps c1 c2 c3 c4 f) (hk : c.kind ≤ 255) (hv : Hid (Pl.vast f = false)) (HE : Hid (Pl.fieldE f = 0)) (d0 : -100000 ≤ dx) (d1 : dx ≤ 100000) :
    Calls Tryz.prog 5 #[.agg #[.slice A1 f.st.length c1, .slice A2 f.li.length c2, .slice A3 f.pa.length c3, .slice A4 f.va.length c4], .agg #[.int .u8 (c.kind : Int), .int .i64 c.lim, .int .i64 c.oth, .int .i64 c.fr, .int .i64 c.till, .int .i64 c.size, .int .i64 c.er, .int .i64 c.crs.b, .int .i64 c.crs.n, .int .i64 c.crs.l, .int .i64 c.crs.y, .int .i64 c.crs.x, .int .i64 c.crs.s], .int .i64 dx] w fun e w' => e = .returned (.bool true) ∧ Below w.heap.size w w' := by
  have kf := (heap_alloc_new w (.cells #[.slice A1 f.st.length c1, .slice A2 f.li.length c2, .slice A3 f.pa.length c3, .slice A4 f.va.length c4] 28))
  have kc := (heap_alloc_new (w.alloc (.cells #[.slice A1 f.st.length c1, .slice A2 f.li.length c2, .slice A3 f.pa.length c3, .slice A4 f.va.length c4] 28)) (.cells #[.int .u8 (c.kind : Int), .int .i64 c.lim, .int .i64 c.oth, .int .i64 c.fr, .int .i64 c.till, .int .i64 c.size, .int .i64 c.er, .int .i64 c.crs.b, .int .i64 c.crs.n, .int .i64 c.crs.l, .int .i64 c.crs.y, .int .i64 c.crs.x, .int .i64 c.crs.s] 48))
  rw [World.size_alloc] at kc
  have kf := (Below.heap_alloc _ (.cells #[.int .u8 (c.kind : Int), .int .i64 c.lim, .int .i64 c.oth, .int .i64 c.fr, .int .i64 c.till, .int .i64 c.size, .int .i64 c.er, .int .i64 c.crs.b, .int .i64 c.crs.n, .int .i64 c.crs.l, .int .i64 c.crs.y, .int .i64 c.crs.x, .int .i64 c.crs.s] 48) _ (Array.getElem?_eq_some_iff.1 kf).1).trans kf
  have l01 := ld_row kf Tryz.underlying28 rfl info_fld
  have l02 := ld_row kc Tryz.underlying48 rfl info_cal
  have hall : Below w.heap.size w ((w.alloc (.cells #[.slice A1 f.st.length c1, .slice A2 f.li.length c2, .slice A3 f.pa.length c3, .slice A4 f.va.length c4] 28)).alloc (.cells #[.int .u8 (c.kind : Int), .int .i64 c.lim, .int .i64 c.oth, .int .i64 c.fr, .int .i64 c.till, .int .i64 c.size, .int .i64 c.er, .int .i64 c.crs.b, .int .i64 c.crs.n, .int .i64 c.crs.l, .int .i64 c.crs.y, .int .i64 c.crs.x, .int .i64 c.crs.s] 48)) := ((Below.refl _ w).alloc (Nat.le_refl _) _).alloc (by simp) _
  have hok := Pl.fieldE_ok HE.out
  have hS := hok.st12
  have HX := Lib.hid hok.x
  clear hok
  have n0 : ¬ dx < -100000 := by omega
  have n1 : ¬ 100000 < dx := by omega
  go_enter Tryz.func5, Tryz.ntmps5
  go_wp2_with fail
  refine (vast_a A1 A2 A3 A4 c1 c2 c3 c4 f _ (hf.up hall) false hv).mono ?_
  rintro e w1 ⟨rfl, hx⟩
  replace kf := (hx.block _ (Array.getElem?_eq_some_iff.1 kf).1).trans kf; replace kc := (hx.block _ (Array.getElem?_eq_some_iff.1 kc).1).trans kc; replace hall : Below w.heap.size w _ := hall.trans (hx.mono hall.size); (try clear l01 l02); have l01 := ld_row kf Tryz.underlying28 rfl info_fld; have l02 := ld_row kc Tryz.underlying48 rfl info_cal; (try clear hcf hff hcc hfc); obtain ⟨hcf, hff⟩ := blk_cells kf; obtain ⟨hcc, hfc⟩ := blk_cells kc; clear hx
  go_wp2_with fail
  refine (checkField_h A1 A2 A3 A4 c1 c2 c3 c4 f 0 _ HE (hf.up hall) hm hc).mono ?_
  rintro e w2 ⟨rfl, hx⟩
  replace kf := (hx.block _ (Array.getElem?_eq_some_iff.1 kf).1).trans kf; replace kc := (hx.block _ (Array.getElem?_eq_some_iff.1 kc).1).trans kc; replace hall : Below w.heap.size w _ := hall.trans (hx.mono hall.size); (try clear l01 l02); have l01 := ld_row kf Tryz.underlying28 rfl info_fld; have l02 := ld_row kc Tryz.underlying48 rfl info_cal; (try clear hcf hff hcc hfc); obtain ⟨hcf, hff⟩ := blk_cells kf; obtain ⟨hcc, hfc⟩ := blk_cells kc; clear hx
  have l04 := l01
  have kc0 := Lib.hid kc
  obtain ⟨W2, st2, kg, hx⟩ := sp_fld #[.slice A1 f.st.length c1, .slice A2 f.li.length c2, .slice A3 f.pa.length c3, .slice A4 f.va.length c4] rfl (by simp [Value.oneCell']) w2
  replace kf := (hx.block _ (Array.getElem?_eq_some_iff.1 kf).1).trans kf; replace kc := (hx.block _ (Array.getElem?_eq_some_iff.1 kc).1).trans kc; replace hall : Below w.heap.size w _ := hall.trans (hx.mono hall.size); (try clear l01 l02); have l01 := ld_row kf Tryz.underlying28 rfl info_fld; have l02 := ld_row kc Tryz.underlying48 rfl info_cal; (try clear hcf hff hcc hfc); obtain ⟨hcf, hff⟩ := blk_cells kf; obtain ⟨hcc, hfc⟩ := blk_cells kc; clear hx
  have hlt2 : w.heap.size + 1 < w2.heap.size := (Array.getElem?_eq_some_iff.1 kc0.out).1
  have hltd : w2.heap.size < W2.heap.size := (Array.getElem?_eq_some_iff.1 kg).1
  obtain ⟨hcg, hfg⟩ := blk_cells kg
  go_wp2
  go_loopw [8] (fun i wr => ∃ (k : Nat) (v : Value), k ≤ f.st.length ∧ i = .int .i64 k ∧ wr.heap[w2.heap.size]? = some (.cells #[v, .slice A2 f.li.length c2, .slice A3 f.pa.length c3, .slice A4 f.va.length c4] 28 (0, 0)) ∧ wr.ownsRow (w2.heap.size + 1) 50 2 v k (((Pl.moved f dx).st.take k).flatMap encSta) ∧ wr.heap[w.heap.size]? = some (.cells #[.slice A1 f.st.length c1, .slice A2 f.li.length c2, .slice A3 f.pa.length c3, .slice A4 f.va.length c4] 28 (0, 0)) ∧ wr.heap[w.heap.size + 1]? = some (.cells #[.int .u8 (c.kind : Int), .int .i64 c.lim, .int .i64 c.oth, .int .i64 c.fr, .int .i64 c.till, .int .i64 c.size, .int .i64 c.er, .int .i64 c.crs.b, .int .i64 c.crs.n, .int .i64 c.crs.l, .int .i64 c.crs.y, .int .i64 c.crs.x, .int .i64 c.crs.s] 48 (0, 0)) ∧ Below w.heap.size w wr ∧ w2.heap.size < wr.heap.size ∧ Hid (∀ j (h : j < f.st.length), j < k → 0 ≤ f.st[j].2 + dx ∧ f.st[j].2 + dx ≤ 100000)) (fun i _ => f.st.length - (intOf i).toNat)
  case atStart =>
    have kg0 := heap_setCell_same _ _ 0 _ _ (.slice none 0 0) kg
    simp only [List.setIfInBounds_toArray, List.set_cons_zero] at kg0
    exact ⟨0, .slice none 0 0, by omega, rfl, kg0, World.ownsRow_nil _ _ _ _, (Below.heap_setCell W2 ⟨w2.heap.size, 0, none⟩ _ _ (show w.heap.size ≠ w2.heap.size by omega)).trans kf, (Below.heap_setCell W2 ⟨w2.heap.size, 0, none⟩ _ _ (show w.heap.size + 1 ≠ w2.heap.size by omega)).trans kc, hall.setCell (p := ⟨w2.heap.size, 0, none⟩) (show w.heap.size ≤ w2.heap.size by omega) _, by simp; omega, Lib.hid fun j _ h => by omega⟩
  case round =>
    clear hcg hfg kg l01 l02 l04 hcf hff hcc hfc kf kc hall st2
    obtain ⟨k, v, hk', rfl, kg, hown, kf, kc, hall, hge, hrg⟩ := hrel
    obtain ⟨hcf, hff⟩ := blk_cells kf
    obtain ⟨hcg, hfg⟩ := blk_cells kg
    by_cases hlt : k < f.st.length
    · obtain ⟨b, off, hA, hbB, q0, q1⟩ := Stas.at2 (hf.st.below hall) hlt
      have hx0 := HX.out _ (List.getElem_mem hlt)
      have htk := moved_take (dx := dx) hlt
      have hnext : Hid (0 ≤ f.st[k].2 + dx → f.st[k].2 + dx ≤ 100000 → ∀ j (h : j < f.st.length), j < k + 1 → 0 ≤ f.st[j].2 + dx ∧ f.st[j].2 + dx ≤ 100000) := Lib.hid fun g0 g1 j h hj => by
        by_cases e : j = k
        · subst e; exact ⟨g0, g1⟩
        · exact hrg.out j h (by omega)
      obtain ⟨⟨nm, x⟩, hst⟩ : ∃ s, f.st[k] = s := ⟨_, rfl⟩
      rw [hst] at q0 q1 hx0 htk hnext
      simp only at q0 q1 hx0 htk hnext
      have HTK := Lib.hid htk
      clear hst htk hrg
      subst hA
      obtain ⟨W4, st4, kp, hb4⟩ := sp_sta nm x wr
      obtain ⟨W5, hW5⟩ : ∃ W5, W4.setCell ⟨wr.heap.size, 1, none⟩ (.int .i64 (x + dx)) = W5 := ⟨_, rfl⟩
      have hlt4 : wr.heap.size < W4.heap.size := (Array.getElem?_eq_some_iff.1 kp).1
      obtain ⟨hcp, hfp⟩ := blk_cells kp
      have kp5 := heap_setCell_same _ _ 1 _ _ (.int .i64 (x + dx)) kp
      have hb5 := hb4.setCell (p := ⟨wr.heap.size, 1, none⟩) (Nat.le_refl _) (.int .i64 (x + dx))
      rw [hW5] at kp5 hb5
      simp only [List.setIfInBounds_toArray, List.set_cons_succ, List.set_cons_zero] at kp5
      obtain ⟨hcp5, hfp5⟩ := blk_cells kp5
      have l5 := ld_row kp5 Tryz.underlying50 rfl info_sta
      have kg5 := (hb5.block _ hge).trans kg
      have kf5 := (hb5.block _ (show w.heap.size < wr.heap.size by omega)).trans kf
      have kc5 := (hb5.block _ (show w.heap.size + 1 < wr.heap.size by have := hlt2; omega)).trans kc
      obtain ⟨hcg5, hfg5⟩ := blk_cells kg5
      have hlt5 : w2.heap.size < W5.heap.size := (Array.getElem?_eq_some_iff.1 kg5).1
      have hall5 : Below w.heap.size w W5 := hall.trans (hb5.mono hall.size)
      have e1 : IntKind.i64.wrap (x + dx) = x + dx := IntWalk.i64_in _ (by omega)
      by_cases g0 : x + dx < 0
      · go_wp2_with fail
        refine (spoken_a _ (hEn.up hall5)).mono ?_
        rintro e w7 ⟨rfl, hx⟩
        go_wp2_with fail
        go_ret
        exact ⟨rfl, hall5.trans (hx.mono hall5.size)⟩
      · by_cases g1 : 100000 < x + dx
        · go_wp2_with fail
          refine (spoken_a _ (hEn.up hall5)).mono ?_
          rintro e w7 ⟨rfl, hx⟩
          go_wp2_with fail
          go_ret
          exact ⟨rfl, hall5.trans (hx.mono hall5.size)⟩
        · obtain ⟨g', cap', w6, hrun, hown6, hb6⟩ := own_app lay_sta (own_below hown hb5) [(nm, x + dx)] 0 rfl #[.string nm, .int .i64 (x + dx)] (by simp [encSta]) (by unfold maxLen; omega) (by omega) hlt5
          have kg6 := (hb6.block w2.heap.size (by omega)).trans kg5
          have kf6 := (hb6.block w.heap.size (by omega)).trans kf5
          have kc6 := (hb6.block (w.heap.size + 1) (by omega)).trans kc5
          obtain ⟨hcg6, hfg6⟩ := blk_cells kg6
          have hlt6 : w2.heap.size < w6.heap.size := (Array.getElem?_eq_some_iff.1 kg6).1
          have HN := Lib.hid (hnext.out (by omega) (by omega))
          rw [← HTK.out] at hown6
          have hall6 : Below w.heap.size w w6 := hall5.trans (hb6.mono (by omega))
          have kg7 := heap_setCell_same _ _ 0 _ _ (.slice (some ⟨g', 0, none⟩) (k + 1) cap') kg6
          simp only [List.setIfInBounds_toArray, List.set_cons_zero] at kg7
          go_wp2
          exact ⟨⟨k + 1, _, by omega, by go_num, kg7, own_box hown6 (by omega), (Below.heap_setCell w6 ⟨w2.heap.size, 0, none⟩ _ _ (show w.heap.size ≠ w2.heap.size by omega)).trans kf6, (Below.heap_setCell w6 ⟨w2.heap.size, 0, none⟩ _ _ (show w.heap.size + 1 ≠ w2.heap.size by omega)).trans kc6, hall6.setCell (p := ⟨w2.heap.size, 0, none⟩) (show w.heap.size ≤ w2.heap.size by omega) _, by simp; omega, HN⟩, by simp [intOf]; omega⟩
    · obtain rfl : k = f.st.length := by omega
      have hxs : Hid (∀ s ∈ f.st, 0 ≤ s.2 + dx ∧ s.2 + dx ≤ 100000) := Lib.hid fun s hs => by
        obtain ⟨j, hj, rfl⟩ := List.getElem_of_mem hs
        exact hrg.out j hj hj
      have hE' := Lib.hid (Pl.move_field HE.out hxs.out)
      have hBE := Lib.hid (moved_boundsE HE.out hE'.out c 3)
      have hBV := Lib.hid (moved_boundsV HE.out hE'.out c)
      rw [List.take_of_length_le (by rw [moved_len]; omega)] at hown
      rw [← moved_len f dx] at hown
      obtain ⟨G, cg, hvG, hSG, hcG, hFG⟩ := own_seg lay_sta hown
      rw [moved_len] at hvG
      subst hvG
      have hm' := moved_small (dx := dx) hm
      have hf0 := hf.up hall
      have hf' : FldS wr wr.heap.size G A2 A3 A4 (Pl.moved f dx) := ⟨hSG, hf0.li, hf0.pa, hf0.va⟩
      have hc' : Caps cg c2 c3 c4 (Pl.moved f dx) := ⟨hcG, hc.li, hc.pa, hc.va⟩
      have hlm := moved_len f dx
      have n2 : (Pl.moved f dx).li = f.li := rfl
      have n3 : (Pl.moved f dx).pa = f.pa := rfl
      have n4 : (Pl.moved f dx).va = f.va := rfl
      have hnl : (Pl.nature f.st.length f.li.length).length ≤ 100000 := by
        have hok := Pl.fieldE_ok HE.out
        rw [Pl.nature_len]
        have := Pl.points_bd hok
        have : (f.li.length - 1) * f.st.length ≤ 9 * 12 := Nat.mul_le_mul (by have := hok.li10; omega) hok.st12
        omega
      have NB := fun (W : World) (a : FldS W W.heap.size G A2 A3 A4 (Pl.moved f dx)) => Nature_ok G A2 A3 A4 cg c2 c3 c4 (Pl.moved f dx) W a hm' hc' hE'.out
      have BB := fun (W : World) (a : FldS W W.heap.size G A2 A3 A4 (Pl.moved f dx)) => Bounds_h G A2 A3 A4 cg c2 c3 c4 (Pl.moved f dx) c 3 _ _ W hBV hBE a hm' hc' hk
      have CB := fun (W : World) (a : FldS W W.heap.size G A2 A3 A4 (Pl.moved f dx)) => checkField_h G A2 A3 A4 cg c2 c3 c4 (Pl.moved f dx) 0 W hE' a hm' hc'
      simp only [hlm, n2, n3, n4] at NB BB CB
      obtain ⟨l, hl⟩ : ∃ l, Pl.boundsV f c 3 = l := ⟨_, rfl⟩
      obtain ⟨EB, hEB⟩ : ∃ l, Pl.boundsE f c 3 = l := ⟨_, rfl⟩
      rw [hl, hEB] at BB
      have HL := Lib.hid hl
      have HEB := Lib.hid hEB
      have hll : l.length ≤ 100000 := by
        rw [← hl]
        unfold Pl.boundsV
        split
        · rename_i h0
          rw [boundsE_in f c (by decide)] at h0
          rw [Pl.boundsC_len]
          have ht := (tab_of h0).2
          obtain ⟨_, ⟨f0, f1⟩, h⟩ := ht
          have : (Pl.spans f c).length ≤ 100 := by
            unfold Pl.spans
            split <;> rename_i hk2 <;> simp only [List.length_map, List.length_range, List.length_cons, List.length_nil] <;> rcases h with h | h | h | h | h <;> omega
          omega
        · simp
      clear hl hEB hlm n2 n3 n4 hcG hFG hSG hown
      have l01 := ld_row kf Tryz.underlying28 rfl info_fld
      have l02 := ld_row kc Tryz.underlying48 rfl info_cal
      have l06 := ld_row kg Tryz.underlying28 rfl info_fld
      clear hcg hfg
      obtain ⟨hcc, hfc⟩ := blk_cells kc
      go_wp2_with fail
      refine (Nature_ok A1 A2 A3 A4 c1 c2 c3 c4 f _ (hf.up hall) hm hc HE.out).mono ?_
      rintro e w3 ⟨X, x, rfl, hN, _, hx⟩
      clear hf0
      replace kg := (hx.block _ (Array.getElem?_eq_some_iff.1 kg).1).trans kg; (try clear l06); have l06 := ld_row kg Tryz.underlying28 rfl info_fld; replace hf' := hf'.up hx;  replace kf := (hx.block _ (Array.getElem?_eq_some_iff.1 kf).1).trans kf; replace kc := (hx.block _ (Array.getElem?_eq_some_iff.1 kc).1).trans kc; replace hall : Below w.heap.size w _ := hall.trans (hx.mono hall.size); (try clear l01 l02); have l01 := ld_row kf Tryz.underlying28 rfl info_fld; have l02 := ld_row kc Tryz.underlying48 rfl info_cal; (try clear hcf hff hcc hfc); obtain ⟨hcf, hff⟩ := blk_cells kf; obtain ⟨hcc, hfc⟩ := blk_cells kc; clear hx
      go_wp2_with fail
      refine (NB _ hf').mono ?_
      rintro e w4 ⟨Y, y, rfl, hM, _, hx⟩
      replace kg := (hx.block _ (Array.getElem?_eq_some_iff.1 kg).1).trans kg; (try clear l06); have l06 := ld_row kg Tryz.underlying28 rfl info_fld; replace hf' := hf'.up hx; replace hN := hN.up hx; replace kf := (hx.block _ (Array.getElem?_eq_some_iff.1 kf).1).trans kf; replace kc := (hx.block _ (Array.getElem?_eq_some_iff.1 kc).1).trans kc; replace hall : Below w.heap.size w _ := hall.trans (hx.mono hall.size); (try clear l01 l02); have l01 := ld_row kf Tryz.underlying28 rfl info_fld; have l02 := ld_row kc Tryz.underlying48 rfl info_cal; (try clear hcf hff hcc hfc); obtain ⟨hcf, hff⟩ := blk_cells kf; obtain ⟨hcc, hfc⟩ := blk_cells kc; clear hx
      go_wp2_with fail
      refine (Bounds_h A1 A2 A3 A4 c1 c2 c3 c4 f c 3 l EB _ HL HEB (hf.up hall) hm hc hk).mono ?_
      rintro e w5 ⟨Z, z, rfl, hB1, _, _, hx⟩
      replace kg := (hx.block _ (Array.getElem?_eq_some_iff.1 kg).1).trans kg; (try clear l06); have l06 := ld_row kg Tryz.underlying28 rfl info_fld; replace hf' := hf'.up hx; replace hN := hN.up hx; replace hM := hM.up hx; replace kf := (hx.block _ (Array.getElem?_eq_some_iff.1 kf).1).trans kf; replace kc := (hx.block _ (Array.getElem?_eq_some_iff.1 kc).1).trans kc; replace hall : Below w.heap.size w _ := hall.trans (hx.mono hall.size); (try clear l01 l02); have l01 := ld_row kf Tryz.underlying28 rfl info_fld; have l02 := ld_row kc Tryz.underlying48 rfl info_cal; (try clear hcf hff hcc hfc); obtain ⟨hcf, hff⟩ := blk_cells kf; obtain ⟨hcc, hfc⟩ := blk_cells kc; clear hx
      go_wp2_with fail
      refine (BB _ hf').mono ?_
      rintro e w6 ⟨Z', z', rfl, hB2, _, _, hx⟩
      replace kg := (hx.block _ (Array.getElem?_eq_some_iff.1 kg).1).trans kg; (try clear l06); have l06 := ld_row kg Tryz.underlying28 rfl info_fld; replace hf' := hf'.up hx; replace hN := hN.up hx; replace hM := hM.up hx; replace hB1 := hB1.up hx; replace kf := (hx.block _ (Array.getElem?_eq_some_iff.1 kf).1).trans kf; replace kc := (hx.block _ (Array.getElem?_eq_some_iff.1 kc).1).trans kc; replace hall : Below w.heap.size w _ := hall.trans (hx.mono hall.size); (try clear l01 l02); have l01 := ld_row kf Tryz.underlying28 rfl info_fld; have l02 := ld_row kc Tryz.underlying48 rfl info_cal; (try clear hcf hff hcc hfc); obtain ⟨hcf, hff⟩ := blk_cells kf; obtain ⟨hcc, hfc⟩ := blk_cells kc; clear hx
      go_wp2_with fail
      refine (spoken_a _ (hEn.up hall)).mono ?_
      rintro e w7 ⟨rfl, hx⟩
      replace kg := (hx.block _ (Array.getElem?_eq_some_iff.1 kg).1).trans kg; (try clear l06); have l06 := ld_row kg Tryz.underlying28 rfl info_fld; replace hf' := hf'.up hx; (try replace hN := hN.up hx); (try replace hM := hM.up hx); (try replace hB1 := hB1.up hx); (try replace hB2 := hB2.up hx); replace kf := (hx.block _ (Array.getElem?_eq_some_iff.1 kf).1).trans kf; replace kc := (hx.block _ (Array.getElem?_eq_some_iff.1 kc).1).trans kc; replace hall : Below w.heap.size w _ := hall.trans (hx.mono hall.size); (try clear l01 l02); have l01 := ld_row kf Tryz.underlying28 rfl info_fld; have l02 := ld_row kc Tryz.underlying48 rfl info_cal; (try clear hcf hff hcc hfc); obtain ⟨hcf, hff⟩ := blk_cells kf; obtain ⟨hcc, hfc⟩ := blk_cells kc; clear hx
      go_wp2_with fail
      refine (CB _ hf').mono ?_
      rintro e w8 ⟨rfl, hx⟩
      replace kg := (hx.block _ (Array.getElem?_eq_some_iff.1 kg).1).trans kg; (try clear l06); have l06 := ld_row kg Tryz.underlying28 rfl info_fld; replace hf' := hf'.up hx; (try replace hN := hN.up hx); (try replace hM := hM.up hx); (try replace hB1 := hB1.up hx); (try replace hB2 := hB2.up hx); replace kf := (hx.block _ (Array.getElem?_eq_some_iff.1 kf).1).trans kf; replace kc := (hx.block _ (Array.getElem?_eq_some_iff.1 kc).1).trans kc; replace hall : Below w.heap.size w _ := hall.trans (hx.mono hall.size); (try clear l01 l02); have l01 := ld_row kf Tryz.underlying28 rfl info_fld; have l02 := ld_row kc Tryz.underlying48 rfl info_cal; (try clear hcf hff hcc hfc); obtain ⟨hcf, hff⟩ := blk_cells kf; obtain ⟨hcc, hfc⟩ := blk_cells kc; clear hx
      go_wp2_with fail
      refine (sameBounds_a X Y x y _ (Pl.nature f.st.length f.li.length) _ rfl hN hnl hM).mono ?_
      rintro e w9 ⟨rfl, hx⟩
      replace kg := (hx.block _ (Array.getElem?_eq_some_iff.1 kg).1).trans kg; (try clear l06); have l06 := ld_row kg Tryz.underlying28 rfl info_fld; replace hf' := hf'.up hx; (try replace hN := hN.up hx); (try replace hM := hM.up hx); (try replace hB1 := hB1.up hx); (try replace hB2 := hB2.up hx); replace kf := (hx.block _ (Array.getElem?_eq_some_iff.1 kf).1).trans kf; replace kc := (hx.block _ (Array.getElem?_eq_some_iff.1 kc).1).trans kc; replace hall : Below w.heap.size w _ := hall.trans (hx.mono hall.size); (try clear l01 l02); have l01 := ld_row kf Tryz.underlying28 rfl info_fld; have l02 := ld_row kc Tryz.underlying48 rfl info_cal; (try clear hcf hff hcc hfc); obtain ⟨hcf, hff⟩ := blk_cells kf; obtain ⟨hcc, hfc⟩ := blk_cells kc; clear hx
      go_wp2_with fail
      refine (sameBounds_a Z Z' z z' _ l _ rfl hB1 hll hB2).mono ?_
      rintro e w10 ⟨rfl, hx⟩
      replace kg := (hx.block _ (Array.getElem?_eq_some_iff.1 kg).1).trans kg; (try clear l06); have l06 := ld_row kg Tryz.underlying28 rfl info_fld; replace hf' := hf'.up hx; (try replace hN := hN.up hx); (try replace hM := hM.up hx); (try replace hB1 := hB1.up hx); (try replace hB2 := hB2.up hx); replace kf := (hx.block _ (Array.getElem?_eq_some_iff.1 kf).1).trans kf; replace kc := (hx.block _ (Array.getElem?_eq_some_iff.1 kc).1).trans kc; replace hall : Below w.heap.size w _ := hall.trans (hx.mono hall.size); (try clear l01 l02); have l01 := ld_row kf Tryz.underlying28 rfl info_fld; have l02 := ld_row kc Tryz.underlying48 rfl info_cal; (try clear hcf hff hcc hfc); obtain ⟨hcf, hff⟩ := blk_cells kf; obtain ⟨hcc, hfc⟩ := blk_cells kc; clear hx
      go_wp2_with fail
      go_ret
      exact ⟨by first | rfl | (simp; done), hall⟩
theorem deedMoves_w (A1 A2 A3 A4 : Option Addr) (c1 c2 c3 c4 : Nat) (f : Pl.Fld) (c : Pl.Cal) (dx : Int) (w : World) (hEn : Env w) (hf : FldS w w.heap.size A1 A2 A3 A4 f) (hc : Caps c1 c2 c3 c4 f) (hk : c.kind ≤ 255) :
    Calls Tryz.prog 5 #[.agg #[.slice A1 f.st.length c1, .slice A2 f.li.length c2, .slice A3 f.pa.length c3, .slice A4 f.va.length c4], .agg #[.int .u8 (c.kind : Int), .int .i64 c.lim, .int .i64 c.oth, .int .i64 c.fr, .int .i64 c.till, .int .i64 c.size, .int .i64 c.er, .int .i64 c.crs.b, .int .i64 c.crs.n, .int .i64 c.crs.l, .int .i64 c.crs.y, .int .i64 c.crs.x, .int .i64 c.crs.s], .int .i64 dx] w fun e w' => e = .returned (.bool true) ∧ Below w.heap.size w w' := by
  by_cases h : Pl.vast f = true ∨ Pl.fieldE f ≠ 0 ∨ dx < -100000 ∨ 100000 < dx
  · exact deedMoves_idle A1 A2 A3 A4 c1 c2 c3 c4 f c dx w hEn hf hc h
  · rw [not_or, not_or, not_or] at h
    have hv : Pl.vast f = false := by simpa using h.1
    exact deedMoves_ok A1 A2 A3 A4 c1 c2 c3 c4 f c dx w hEn hf (Pl.vast_small hv) hc hk (Lib.hid hv) (Lib.hid (Classical.not_not.1 h.2.1)) (by omega) (by omega)
end Go.Proofs.YtgbpekeoegfjpaaGreatDoor
