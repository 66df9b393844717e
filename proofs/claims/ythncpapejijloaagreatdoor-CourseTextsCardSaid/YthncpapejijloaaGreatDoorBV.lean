/- Walks of the reference: words, numbers read. -/
import Derived.Test.YthncpapejijloaaGreatDoorProg
import Derived.WalkKit
import Derived.WalkLawsBesides
import Derived.WalkSpells
import Derived.Handy
import Derived.Lib.Hide
import Derived.Great.BuildSlice
import Derived.Deep.QuietTactic
import Derived.BigQuiet
import Derived.Deep.RegionHeld3
import Derived.Deep.DeepCutAuto
import Derived.Lib.Strings
import Derived.Test.YthncpapejijloaaGreatDoorBU
namespace Go.Proofs.YthncpapejijloaaGreatDoor
open Go.RowKit
attribute [-go_sem] Builtin.append_

/-- One string more: what the append leaves. -/
theorem app1 {n₀ k : Nat} {w1 : World} {v : Value} {xs : List Value} (hr : w1.ownsRow n₀ 9 1 v k xs) (a : ByteArray) (hk : k + 1 ≤ 1000) (hn : n₀ ≤ w1.heap.size) :
    ∃ g' cap' w2, (Builtin.append_ #[100, 100] 100 #[v, .slice (some ⟨w1.heap.size, 0, none⟩) 1 1]).run Tryz.prog (w1.alloc (.cells #[.string a] 9)) = .ok (.slice (some ⟨g', 0, none⟩) (k + 1) cap') w2 ∧
      w2.ownsRow n₀ 9 1 (.slice (some ⟨g', 0, none⟩) (k + 1) cap') (k + 1) (xs ++ [.string a]) ∧ Below n₀ w1 w2 := by
  obtain ⟨i0, hi0, hz0, hz1, hz2⟩ := info_parts info_string
  have hml : k + 1 ≤ maxLen := Nat.le_trans hk (by decide)
  have hcell : ∀ j u, [Value.string a][j]? = some u → (w1.alloc (.cells #[.string a] 9)).cell? ((⟨w1.heap.size, 0, none⟩ : Addr).add j) = some u := by
    intro j u hj
    match j, hj with
    | 0, hj => simp at hj; subst hj; simp [Addr.add]
  obtain ⟨v', w2, hrun, hown, hgrow, hn2⟩ := run_append_own (P := Tryz.prog) (w := w1.alloc (.cells #[.string a] 9)) n₀ 100 100 9 i0 _ 1 16 Tryz.underlying100 hi0 hz0 hz1 hz2 rfl (by decide) v k xs (hr.alloc _) ⟨w1.heap.size, 0, none⟩ 1 1 [.string a] rfl hcell (by simp [Value.oneCell']) hml (by omega) (by simp only [World.size_alloc]; omega)
  obtain ⟨g', cap', rfl⟩ := ownsRow_succ hown
  refine ⟨g', cap', w2, hrun, hown, ?_⟩
  refine (((Below.refl n₀ w1).alloc hn _).grown hgrow (by simp only [World.size_alloc]; omega) fun j ej => ?_)
  exact ((hr.alloc (.cells #[.string a] 9)).lt j ej).1
/-- The bytes from f up to i. -/
def stretch (L : List UInt8) (f i : Nat) : List UInt8 := (L.drop f).take (i - f)
theorem stretch_succ {L : List UInt8} {f i : Nat} (h : f ≤ i) (hi : i < L.length) : stretch L f (i + 1) = stretch L f i ++ [L[i]] := by
  unfold stretch
  rw [show i + 1 - f = (i - f) + 1 by omega, List.take_succ_eq_append_getElem (by simp; omega)]
  simp [show f + (i - f) = i by omega]
theorem stretch_self (L : List UInt8) (f : Nat) : stretch L f f = [] := by unfold stretch; simp
theorem extract_stretch (s : ByteArray) (f i : Nat) : (s.extract f i).data.toList = stretch s.data.toList f i := Lib.extract_data s f i
theorem cut_at {L : List UInt8} {f i : Nat} (h : f ≤ i) (hi : i < L.length) : Pl.cutW (stretch L f i) (L.drop i) = if L[i] = 32 then stretch L f i :: Pl.cutW (stretch L (i + 1) (i + 1)) (L.drop (i + 1)) else Pl.cutW (stretch L f (i + 1)) (L.drop (i + 1)) := by
  rw [List.drop_eq_getElem_cons hi, stretch_self, stretch_succ h hi]
  rfl
def WordsPost (s : ByteArray) (w : World) (e : Ending) (w' : World) : Prop :=
  ∃ g cap, e = .returned (.slice (some ⟨g, 0, none⟩) (Pl.wordsV s).length cap) ∧ StrsS w' w'.heap.size (some ⟨g, 0, none⟩) (Pl.wordsV s) ∧ w.heap.size ≤ g ∧ Below w.heap.size w w'
theorem seg_of_own {w : World} {n₀ g cap : Nat} {l : List ByteArray} (h : w.ownsRow n₀ 9 1 (.slice (some ⟨g, 0, none⟩) l.length cap) l.length (l.map Value.string)) : StrsS w w.heap.size (some ⟨g, 0, none⟩) l := by
  refine .inr ⟨g, 0, rfl, (h.lt g rfl).2, fun k x hx j v hv => ?_⟩
  have hj : j = 0 := by have := (List.getElem?_eq_some_iff.1 hv).1; simp [encS] at this; omega
  subst hj
  simp [encS] at hv
  subst hv
  have := h.cells (g := g) rfl k (.string x) (by simp [hx])
  rw [Go.WideShapes.add_plain] at this
  simpa using this
set_option maxRecDepth 100000 in
set_option maxHeartbeats 2000000 in
theorem words_b (s : ByteArray) (w : World) (hs : s.size ≤ 100) : Calls Tryz.prog 117 #[.string s] w (WordsPost s w) := by
  have hL : s.data.toList.length = s.size := size_list s
  have HL := Lib.hid hL
  have HW := Lib.hid (Pl.wordsV_cut s)
  clear hL
  go_enter Tryz.func117, Tryz.ntmps117
  go_wp2
  go_loopw [3, 4, 5] (fun o fr i wr => ∃ (i' f : Nat) (done : List ByteArray) (v : Value), f ≤ i' ∧ i' ≤ s.size ∧ i = .int .i64 i' ∧ fr = .int .i64 f ∧ o = v ∧ wr.ownsRow w.heap.size 9 1 v done.length (done.map Value.string) ∧ done.length ≤ i' ∧ Hid (done.map (·.data.toList) ++ Pl.cutW (stretch s.data.toList f i') (s.data.toList.drop i') = Pl.cutW [] s.data.toList) ∧ Below w.heap.size w wr) (fun _ _ i _ => s.size - (intOf i).toNat)
  case atStart => exact ⟨0, 0, [], _, by omega, by omega, rfl, rfl, rfl, World.ownsRow_nil _ _ _ _, by simp, by unfold Hid; simp [stretch], by go_grown⟩
  case round =>
    obtain ⟨i, f, done, v, hf, hi, rfl, rfl, rfl, hown, hdl, hg, hb⟩ := hrel
    have hsz := hb.size
    by_cases hlt : i < s.size
    · have hcut := Lib.hid (cut_at (L := s.data.toList) hf (by rw [HL.out]; exact hlt))
      have hget : s.data.toList[i]'(by rw [HL.out]; exact hlt) = s[i] := rfl
      have HG := Lib.hid hget; clear hget
      by_cases hc : s[i] = 32
      · have hc' : ((s[i].toNat : Int) == 32) = true := by rw [hc]; rfl
        have HC := Lib.hid hc; clear hc
        obtain ⟨g', cap', w2, hrun, hown2, hb2⟩ := app1 hown (s.extract f i) (by omega) hsz
        go_wp2
        go_roundw
        case rel => exact ⟨i + 1, i + 1, done ++ [s.extract f i], _, by omega, by omega, by go_num, by go_num, rfl, by simpa using hown2, by simp; omega, by unfold Hid; rw [← hg.out, hcut.out, if_pos (by rw [HG.out]; exact HC.out)]; simp [stretch], hb.trans hb2⟩
        case measure => first | (simp [intOf]; done) | (simp [intOf]; omega)
      · have hne : ¬ s[i].toNat = 32 := by intro h; apply hc; exact UInt8.toNat_inj.1 h
        have hc' : ((s[i].toNat : Int) == 32) = false := by simpa using fun h : (s[i].toNat : Int) = 32 => hne (by omega)
        have HC := Lib.hid hc; clear hc hne
        go_wp2
        go_roundw
        case rel => exact ⟨i + 1, f, done, _, by omega, by omega, by go_num, rfl, rfl, hown, by omega, by unfold Hid; rw [← hg.out, hcut.out, if_neg (by rw [HG.out]; exact HC.out)], by go_grown⟩
        case measure => first | (simp [intOf]; done) | (simp [intOf]; omega)
    · obtain rfl : i = s.size := by omega
      obtain ⟨g', cap', w2, hrun, hown2, hb2⟩ := app1 hown (s.extract f s.size) (by omega) hsz
      have hfin : (done ++ [s.extract f s.size]) = Pl.wordsV s := by
        apply Pl.ba_of_list
        rw [HW.out, ← hg.out, List.drop_eq_nil_of_le (by rw [HL.out]; omega)]
        simp [stretch, Pl.cutW]
      have HF := Lib.hid hfin; clear hfin
      have HL2 : Hid (done.length + 1 = (Pl.wordsV s).length) := by unfold Hid; rw [← HF.out]; simp
      have hB : Below w.heap.size w w2 := hb.trans hb2
      have hown3 : w2.ownsRow w.heap.size 9 1 (.slice (some ⟨g', 0, none⟩) (Pl.wordsV s).length cap') (Pl.wordsV s).length ((Pl.wordsV s).map Value.string) := by
        rw [← HL2.out, ← HF.out]; simpa using hown2
      go_wp2
      go_ret
      exact ⟨g', cap', by rw [← HL2.out]; rfl, seg_of_own hown3, (hown3.lt g' rfl).1, hB⟩
theorem numGo_drop {n : Int} {L : List UInt8} {k : Nat} (hk : k < L.length) : Pl.numGo n (L.drop k) = if L[k].toNat < 48 ∨ 57 < L[k].toNat then none else Pl.numGo (10 * n + L[k].toNat - 48) (L.drop (k + 1)) := by
  rw [List.drop_eq_getElem_cons hk]; rfl
theorem pow_step {n : Int} {k c : Nat} (h0 : 0 ≤ n) (h1 : n < 10 ^ k) (hc : 48 ≤ c) (hc2 : c ≤ 57) : 0 ≤ 10 * n + c - 48 ∧ 10 * n + c - 48 < 10 ^ (k + 1) := by
  have : (10 : Int) ^ (k + 1) = 10 * 10 ^ k := by rw [Int.pow_succ]; omega
  omega
theorem pow_le_12 (k : Nat) (h : k ≤ 12) : (10 : Int) ^ k ≤ 1000000000000 := by
  have : (10 : Nat) ^ k ≤ 10 ^ 12 := Nat.pow_le_pow_right (by omega) h
  have e : ((10 ^ k : Nat) : Int) = (10 : Int) ^ k := by rw [Int.natCast_pow]; rfl
  rw [← e]; omega
set_option maxRecDepth 100000 in
set_option maxHeartbeats 2000000 in
theorem number_b (s : ByteArray) (w : World) (hs : s.size ≤ 100) : Calls Tryz.prog 118 #[.string s] w fun e w' => e = .returned (.tuple #[.int .i64 ((Pl.numB s).getD 0), .bool (Pl.numB s).isSome]) ∧ w = w' := by
  have hL : s.data.toList.length = s.size := size_list s
  have HL := Lib.hid hL
  clear hL
  by_cases hz : s.size < 1 ∨ 12 < s.size
  · have hv : Pl.numB s = none := by unfold Pl.numB; rw [if_pos hz]
    have HV := Lib.hid hv; clear hv
    go_enter Tryz.func118, Tryz.ntmps118
    go_wp2
    all_goals first
      | (exfalso; omega)
      | (go_ret2; exact ⟨by rw [HV.out]; try rfl, rfl⟩)
  · have hv : Pl.numB s = Pl.numGo 0 s.data.toList := by unfold Pl.numB; rw [if_neg hz]
    have HV := Lib.hid hv; clear hv
    have z1 : 1 ≤ s.size := by omega
    have z2 : s.size ≤ 12 := by omega
    clear hz
    go_enter Tryz.func118, Tryz.ntmps118
    go_wp2
    go_loop [4, 5] (fun a i => ∃ (k : Nat) (n : Int), k ≤ s.size ∧ i = .int .i64 k ∧ a = .int .i64 n ∧ 0 ≤ n ∧ n < 10 ^ k ∧ Hid (Pl.numB s = Pl.numGo n (s.data.toList.drop k))) (fun _ i => s.size - (intOf i).toNat)
    case atStart => exact ⟨0, 0, by omega, rfl, rfl, by omega, by simp, HV⟩
    case round =>
      obtain ⟨k, n, hk, rfl, rfl, n0, n1, hg⟩ := hrel
      by_cases hlt : k < s.size
      · have hdrop := Lib.hid (numGo_drop (n := n) (L := s.data.toList) (k := k) (by rw [HL.out]; exact hlt))
        have hget : s.data.toList[k]'(by rw [HL.out]; exact hlt) = s[k] := rfl
        have HG := Lib.hid hget; clear hget
        have p12 := pow_le_12 k (by omega)
        have hu : s[k].toNat ≤ 255 := by have := s[k].toNat_lt; omega
        by_cases hc : s[k].toNat < 48 ∨ 57 < s[k].toNat
        · have hn : Pl.numB s = none := by rw [hg.out, hdrop.out, HG.out, if_pos hc]
          have HN := Lib.hid hn; clear hn hg
          go_wp2
          all_goals first
            | (exfalso; omega)
            | (go_ret2; exact ⟨by rw [HN.out]; try rfl, rfl⟩)
        · have hn : Pl.numB s = Pl.numGo (10 * n + s[k].toNat - 48) (s.data.toList.drop (k + 1)) := by rw [hg.out, hdrop.out, HG.out, if_neg hc]
          have HN := Lib.hid hn; clear hn hg
          obtain ⟨p0, p1⟩ := pow_step (c := s[k].toNat) n0 n1 (by omega) (by omega)
          have P1 := Lib.hid p1
          clear p1
          go_wp2
          all_goals first
            | (exfalso; omega)
            | (go_round
               case rel => exact ⟨k + 1, 10 * n + s[k].toNat - 48, by omega, by go_num, rfl, p0, P1.out, HN⟩
               case measure => first | (simp [intOf]; done) | (simp [intOf]; omega))
      · obtain rfl : k = s.size := by omega
        have hn : Pl.numB s = some n := by rw [hg.out, List.drop_eq_nil_of_le (by rw [HL.out]; omega)]; rfl
        have HN := Lib.hid hn; clear hn hg
        go_wp2
        go_ret2
        exact ⟨by rw [HN.out]; rfl, rfl⟩
end Go.Proofs.YthncpapejijloaaGreatDoor
