/- Texts of mine, merged: EB. -/
import Derived.Test.YtgbpekeoegfjpaaGreatDoorZ06
import Derived.Test.YtgbpekeoegfjpaaGreatDoorZ00
import Derived.Test.YtgbpekeoegfjpaaGreatDoorZ02
/- Walks: whether a call is as the table says, kind by kind. -/
set_option maxRecDepth 100000
namespace Go.Proofs.YtgbpekeoegfjpaaGreatDoor
open Go.RowKit
variable (A1 A2 A3 A4 : Option Addr) (c1 c2 c3 c4 : Nat) (f : Pl.Fld)
theorem eq_own1 (k:Int)(c:Pl.Cal)(W:World):(Op.equalIn 10000 48 (.agg (kkq k c)) (.agg (ka k c.lim 0 c.fr 0 c.size c.er))).run Tryz.prog W=.ok (Pl.own1 c) W:=by
 unfold Pl.own1 Pl.Crs.isZ
 simp[go_sem]
 repeat' split
 all_goals simp_all
theorem eq_own2 (k:Int)(c:Pl.Cal)(W:World):(Op.equalIn 10000 48 (.agg (kkq k c)) (.agg (ka k c.lim c.oth c.fr 0 c.size c.er))).run Tryz.prog W=.ok (Pl.own2 c) W:=by
 unfold Pl.own2 Pl.Crs.isZ
 simp[go_sem]
 repeat' split
 all_goals simp_all
theorem eq_own3 (k:Int)(c:Pl.Cal)(W:World):(Op.equalIn 10000 48 (.agg (kkq k c)) (.agg (kA13 k c.lim 0 c.fr c.till 0 0 c.crs.b c.crs.n c.crs.l c.crs.y c.crs.x c.crs.s))).run Tryz.prog W=.ok (Pl.own3 c) W:=by
 unfold Pl.own3
 simp[go_sem]
 repeat' split
 all_goals simp_all
theorem eq_own4 (k:Int)(c:Pl.Cal)(W:World):(Op.equalIn 10000 48 (.agg (kkq k c)) (.agg (ka k c.lim c.oth c.fr c.till 0 0))).run Tryz.prog W=.ok (Pl.own4 c) W:=by
 unfold Pl.own4 Pl.Crs.isZ
 simp[go_sem]
 repeat' split
 all_goals simp_all
theorem eq_own5 (k:Int)(c:Pl.Cal)(W:World):(Op.equalIn 10000 48 (.agg (kkq k c)) (.agg (ka k c.lim 0 c.fr c.till c.size c.er))).run Tryz.prog W=.ok (Pl.own5 c) W:=by
 unfold Pl.own5 Pl.Crs.isZ
 simp[go_sem]
 repeat' split
 all_goals simp_all
attribute [-go_sem] run_equalIn_agg storeVar loadVar
attribute [local go_sem] lv_int lv_bool lv_u8 lv_string
set_option maxHeartbeats 2000000 in
theorem stone_0 (k:Int)(c:Pl.Cal)(w:World)(_hS:f.st.length<=100000)(_hL:f.li.length<=100000)(h0:Pl.own1 c=false):
  Calls Tryz.prog 211 #[.agg (fkq A1 A2 A3 A4 c1 c2 c3 c4 f k c)] w fun e w'=>e=.returned (.bool false)∧Below w.heap.size w w':=by
 have hEq: ∀W,(Op.equalIn 10000 48 (.agg (kkq k c)) (.agg (ka k c.lim 0 c.fr 0 c.size c.er))).run Tryz.prog W=.ok false W:=fun W=>(eq_own1 k c W).trans (by rw[h0])
 clear h0
 obtain⟨W1,hst,kb,ko,hall⟩:=own_new w (fkq A1 A2 A3 A4 c1 c2 c3 c4 f k c) 128 48 48 z13 (ka k c.lim 0 c.fr 0 c.size c.er) info_cal rfl (by simp[Value.oneCell'])
 obtain⟨hckb,hfkb⟩:=blk_cells kb
 obtain⟨hcko,hfko⟩:=blk_cells ko
 have hltkb:=(lO kb)
 have hltko:=(lO ko)
 have hla:=CBox.call (CBox.mk (f:=f) (c:=c) (k:=k) kb)
 have hlb:=ld_row ko Tryz.underlying48 rfl info_cal
 have hlc:=CBox.whole (CBox.mk (f:=f) (c:=c) (k:=k) kb)
 go_enter Tryz.func211,Tryz.ntmps211
 go_wp2
 go_ret
 exact⟨rfl,by go_grown⟩
set_option maxHeartbeats 2000000 in
theorem stone_1 (k:Int)(c:Pl.Cal)(w:World)(_hS:f.st.length<=100000)(hL:f.li.length<=100000)(h0:Pl.own1 c=true)(h1:Pl.limB f.li.length c.lim=false):
  Calls Tryz.prog 211 #[.agg (fkq A1 A2 A3 A4 c1 c2 c3 c4 f k c)] w fun e w'=>e=.returned (.bool false)∧Below w.heap.size w w':=by
 have hEq: ∀W,(Op.equalIn 10000 48 (.agg (kkq k c)) (.agg (ka k c.lim 0 c.fr 0 c.size c.er))).run Tryz.prog W=.ok true W:=fun W=>(eq_own1 k c W).trans (by rw[h0])
 have H1:=Lib.hid h1
 clear h0 h1
 obtain⟨W1,hst,kb,ko,hall⟩:=own_new w (fkq A1 A2 A3 A4 c1 c2 c3 c4 f k c) 128 48 48 z13 (ka k c.lim 0 c.fr 0 c.size c.er) info_cal rfl (by simp[Value.oneCell'])
 obtain⟨hckb,hfkb⟩:=blk_cells kb
 obtain⟨hcko,hfko⟩:=blk_cells ko
 have hltkb:=(lO kb)
 have hltko:=(lO ko)
 have hla:=CBox.call (CBox.mk (f:=f) (c:=c) (k:=k) kb)
 have hlb:=ld_row ko Tryz.underlying48 rfl info_cal
 have hlc:=CBox.whole (CBox.mk (f:=f) (c:=c) (k:=k) kb)
 go_enter Tryz.func211,Tryz.ntmps211
 go_wp2_with (first
  |(go_at_call 270;refine(limits1 A1 A2 A3 A4 c1 c2 c3 c4 f k c _ c.lim false _ (heap_at (by simp)) (by omega) H1).mono ?_;rintro e w1 ⟨rfl,hx⟩;obtain⟨kb,hckb,hfkb,hltkb⟩:=kB hx kb;obtain⟨ko,hcko,hfko,hltko⟩:=kB hx ko;have hall:Below w.heap.size w w1:=Below.trans (by go_grown) (hx.mono (by go_size));have hsz:w.heap.size<=w1.heap.size:=hall.size;have hl1:=CBox.whole (CBox.mk (f:=f) (c:=c) (k:=k) kb);clear hx))
 go_ret
 exact⟨rfl,by go_grown⟩
set_option maxHeartbeats 2000000 in
theorem stone_2 (k:Int)(c:Pl.Cal)(w:World)(hS:f.st.length<=100000)(hL:f.li.length<=100000)(h0:Pl.own1 c=true)(h1:Pl.limB f.li.length c.lim=true)(h2:Pl.limB f.st.length c.fr=false):
  Calls Tryz.prog 211 #[.agg (fkq A1 A2 A3 A4 c1 c2 c3 c4 f k c)] w fun e w'=>e=.returned (.bool false)∧Below w.heap.size w w':=by
 have hEq: ∀W,(Op.equalIn 10000 48 (.agg (kkq k c)) (.agg (ka k c.lim 0 c.fr 0 c.size c.er))).run Tryz.prog W=.ok true W:=fun W=>(eq_own1 k c W).trans (by rw[h0])
 have H1:=Lib.hid h1
 have H2:=Lib.hid h2
 clear h0 h1 h2
 obtain⟨W1,hst,kb,ko,hall⟩:=own_new w (fkq A1 A2 A3 A4 c1 c2 c3 c4 f k c) 128 48 48 z13 (ka k c.lim 0 c.fr 0 c.size c.er) info_cal rfl (by simp[Value.oneCell'])
 obtain⟨hckb,hfkb⟩:=blk_cells kb
 obtain⟨hcko,hfko⟩:=blk_cells ko
 have hltkb:=(lO kb)
 have hltko:=(lO ko)
 have hla:=CBox.call (CBox.mk (f:=f) (c:=c) (k:=k) kb)
 have hlb:=ld_row ko Tryz.underlying48 rfl info_cal
 have hlc:=CBox.whole (CBox.mk (f:=f) (c:=c) (k:=k) kb)
 go_enter Tryz.func211,Tryz.ntmps211
 go_wp2_with (first
  |(go_at_call 270;refine(limits1 A1 A2 A3 A4 c1 c2 c3 c4 f k c _ c.lim true _ (heap_at (by simp)) (by omega) H1).mono ?_;rintro e w1 ⟨rfl,hx⟩;obtain⟨kb,hckb,hfkb,hltkb⟩:=kB hx kb;obtain⟨ko,hcko,hfko,hltko⟩:=kB hx ko;have hall:Below w.heap.size w w1:=Below.trans (by go_grown) (hx.mono (by go_size));have hsz:w.heap.size<=w1.heap.size:=hall.size;have hl1:=CBox.whole (CBox.mk (f:=f) (c:=c) (k:=k) kb);clear hx)
  |(go_at_call 271;refine(stations1 A1 A2 A3 A4 c1 c2 c3 c4 f k c _ c.fr false _ (heap_at (by simp)) (by omega) H2).mono ?_;rintro e w2 ⟨rfl,hx⟩;obtain⟨kb,hckb,hfkb,hltkb⟩:=kB hx kb;obtain⟨ko,hcko,hfko,hltko⟩:=kB hx ko;have hall:Below w.heap.size w w2:=Below.trans (by go_grown) (hx.mono (by go_size));have hsz:w.heap.size<=w2.heap.size:=hall.size;have hl2:=CBox.whole (CBox.mk (f:=f) (c:=c) (k:=k) kb);clear hx))
 go_ret
 exact⟨rfl,by go_grown⟩
set_option maxHeartbeats 2000000 in
theorem stone_3 (k:Int)(c:Pl.Cal)(w:World)(hS:f.st.length<=100000)(hL:f.li.length<=100000)(h0:Pl.own1 c=true)(h1:Pl.limB f.li.length c.lim=true)(h2:Pl.limB f.st.length c.fr=true)(b:Bool)(h3:Pl.sizedB c 0=b):
  Calls Tryz.prog 211 #[.agg (fkq A1 A2 A3 A4 c1 c2 c3 c4 f k c)] w fun e w'=>e=.returned (.bool b)∧Below w.heap.size w w':=by
 have hEq: ∀W,(Op.equalIn 10000 48 (.agg (kkq k c)) (.agg (ka k c.lim 0 c.fr 0 c.size c.er))).run Tryz.prog W=.ok true W:=fun W=>(eq_own1 k c W).trans (by rw[h0])
 have H1:=Lib.hid h1
 have H2:=Lib.hid h2
 have H3:=Lib.hid h3
 clear h0 h1 h2 h3
 obtain⟨W1,hst,kb,ko,hall⟩:=own_new w (fkq A1 A2 A3 A4 c1 c2 c3 c4 f k c) 128 48 48 z13 (ka k c.lim 0 c.fr 0 c.size c.er) info_cal rfl (by simp[Value.oneCell'])
 obtain⟨hckb,hfkb⟩:=blk_cells kb
 obtain⟨hcko,hfko⟩:=blk_cells ko
 have hltkb:=(lO kb)
 have hltko:=(lO ko)
 have hla:=CBox.call (CBox.mk (f:=f) (c:=c) (k:=k) kb)
 have hlb:=ld_row ko Tryz.underlying48 rfl info_cal
 have hlc:=CBox.whole (CBox.mk (f:=f) (c:=c) (k:=k) kb)
 go_enter Tryz.func211,Tryz.ntmps211
 go_wp2_with (first
  |(go_at_call 270;refine(limits1 A1 A2 A3 A4 c1 c2 c3 c4 f k c _ c.lim true _ (heap_at (by simp)) (by omega) H1).mono ?_;rintro e w1 ⟨rfl,hx⟩;obtain⟨kb,hckb,hfkb,hltkb⟩:=kB hx kb;obtain⟨ko,hcko,hfko,hltko⟩:=kB hx ko;have hall:Below w.heap.size w w1:=Below.trans (by go_grown) (hx.mono (by go_size));have hsz:w.heap.size<=w1.heap.size:=hall.size;have hl1:=CBox.whole (CBox.mk (f:=f) (c:=c) (k:=k) kb);clear hx)
  |(go_at_call 271;refine(stations1 A1 A2 A3 A4 c1 c2 c3 c4 f k c _ c.fr true _ (heap_at (by simp)) (by omega) H2).mono ?_;rintro e w2 ⟨rfl,hx⟩;obtain⟨kb,hckb,hfkb,hltkb⟩:=kB hx kb;obtain⟨ko,hcko,hfko,hltko⟩:=kB hx ko;have hall:Below w.heap.size w w2:=Below.trans (by go_grown) (hx.mono (by go_size));have hsz:w.heap.size<=w2.heap.size:=hall.size;have hl2:=CBox.whole (CBox.mk (f:=f) (c:=c) (k:=k) kb);clear hx)
  |(go_at_call 272;refine(sized_a A1 A2 A3 A4 c1 c2 c3 c4 f k c 0 b _ H3).mono ?_;rintro e w3 ⟨rfl,hx⟩;obtain⟨kb,hckb,hfkb,hltkb⟩:=kB hx kb;obtain⟨ko,hcko,hfko,hltko⟩:=kB hx ko;have hall:Below w.heap.size w w3:=Below.trans (by go_grown) (hx.mono (by go_size));have hsz:w.heap.size<=w3.heap.size:=hall.size;have hl3:=CBox.whole (CBox.mk (f:=f) (c:=c) (k:=k) kb);clear hx))
 go_ret
 exact⟨rfl,by go_grown⟩
theorem stone_a (k:Int)(c:Pl.Cal)(w:World)(hS:f.st.length<=100000)(hL:f.li.length<=100000):
  Calls Tryz.prog 211 #[.agg (fkq A1 A2 A3 A4 c1 c2 c3 c4 f k c)] w fun e w'=>e=.returned (.bool (Pl.stoneB f.st.length f.li.length c))∧Below w.heap.size w w':=by
 unfold Pl.stoneB
 cases h0:Pl.own1 c with
 |false=>simpa using stone_0 A1 A2 A3 A4 c1 c2 c3 c4 f k c w hS hL h0
 |true=>
 cases h1:Pl.limB f.li.length c.lim with
 |false=>simpa using stone_1 A1 A2 A3 A4 c1 c2 c3 c4 f k c w hS hL h0 h1
 |true=>
 cases h2:Pl.limB f.st.length c.fr with
 |false=>simpa using stone_2 A1 A2 A3 A4 c1 c2 c3 c4 f k c w hS hL h0 h1 h2
 |true=>
 simpa using stone_3 A1 A2 A3 A4 c1 c2 c3 c4 f k c w hS hL h0 h1 h2 _ rfl
set_option maxHeartbeats 2000000 in
theorem width_0 (k:Int)(c:Pl.Cal)(w:World)(_hS:f.st.length<=100000)(_hL:f.li.length<=100000)(h0:Pl.own2 c=false):
  Calls Tryz.prog 213 #[.agg (fkq A1 A2 A3 A4 c1 c2 c3 c4 f k c)] w fun e w'=>e=.returned (.bool false)∧Below w.heap.size w w':=by
 have hEq: ∀W,(Op.equalIn 10000 48 (.agg (kkq k c)) (.agg (ka k c.lim c.oth c.fr 0 c.size c.er))).run Tryz.prog W=.ok false W:=fun W=>(eq_own2 k c W).trans (by rw[h0])
 clear h0
 obtain⟨W1,hst,kb,ko,hall⟩:=own_new w (fkq A1 A2 A3 A4 c1 c2 c3 c4 f k c) 128 48 48 z13 (ka k c.lim c.oth c.fr 0 c.size c.er) info_cal rfl (by simp[Value.oneCell'])
 obtain⟨hckb,hfkb⟩:=blk_cells kb
 obtain⟨hcko,hfko⟩:=blk_cells ko
 have hltkb:=(lO kb)
 have hltko:=(lO ko)
 have hla:=CBox.call (CBox.mk (f:=f) (c:=c) (k:=k) kb)
 have hlb:=ld_row ko Tryz.underlying48 rfl info_cal
 have hlc:=CBox.whole (CBox.mk (f:=f) (c:=c) (k:=k) kb)
 go_enter Tryz.func213,Tryz.ntmps213
 go_wp2
 go_ret
 exact⟨rfl,by go_grown⟩
set_option maxHeartbeats 2000000 in
theorem width_1 (k:Int)(c:Pl.Cal)(w:World)(_hS:f.st.length<=100000)(hL:f.li.length<=100000)(h0:Pl.own2 c=true)(h1:(Pl.limB f.li.length c.lim&&Pl.limB f.li.length c.oth)=false):
  Calls Tryz.prog 213 #[.agg (fkq A1 A2 A3 A4 c1 c2 c3 c4 f k c)] w fun e w'=>e=.returned (.bool false)∧Below w.heap.size w w':=by
 have hEq: ∀W,(Op.equalIn 10000 48 (.agg (kkq k c)) (.agg (ka k c.lim c.oth c.fr 0 c.size c.er))).run Tryz.prog W=.ok true W:=fun W=>(eq_own2 k c W).trans (by rw[h0])
 have H1:=Lib.hid h1
 clear h0 h1
 obtain⟨W1,hst,kb,ko,hall⟩:=own_new w (fkq A1 A2 A3 A4 c1 c2 c3 c4 f k c) 128 48 48 z13 (ka k c.lim c.oth c.fr 0 c.size c.er) info_cal rfl (by simp[Value.oneCell'])
 obtain⟨hckb,hfkb⟩:=blk_cells kb
 obtain⟨hcko,hfko⟩:=blk_cells ko
 have hltkb:=(lO kb)
 have hltko:=(lO ko)
 have hla:=CBox.call (CBox.mk (f:=f) (c:=c) (k:=k) kb)
 have hlb:=ld_row ko Tryz.underlying48 rfl info_cal
 have hlc:=CBox.whole (CBox.mk (f:=f) (c:=c) (k:=k) kb)
 go_enter Tryz.func213,Tryz.ntmps213
 go_wp2_with (first
  |(go_at_call 270;refine(limits2 A1 A2 A3 A4 c1 c2 c3 c4 f k c _ c.lim c.oth false _ (heap_at (by simp)) (by omega) H1).mono ?_;rintro e w1 ⟨rfl,hx⟩;obtain⟨kb,hckb,hfkb,hltkb⟩:=kB hx kb;obtain⟨ko,hcko,hfko,hltko⟩:=kB hx ko;have hall:Below w.heap.size w w1:=Below.trans (by go_grown) (hx.mono (by go_size));have hsz:w.heap.size<=w1.heap.size:=hall.size;have hl1:=CBox.whole (CBox.mk (f:=f) (c:=c) (k:=k) kb);clear hx))
 go_ret
 exact⟨rfl,by go_grown⟩
set_option maxHeartbeats 2000000 in
theorem width_2 (k:Int)(c:Pl.Cal)(w:World)(_hS:f.st.length<=100000)(hL:f.li.length<=100000)(h0:Pl.own2 c=true)(h1:(Pl.limB f.li.length c.lim&&Pl.limB f.li.length c.oth)=true)(h2:decide (c.lim<c.oth)=false):
  Calls Tryz.prog 213 #[.agg (fkq A1 A2 A3 A4 c1 c2 c3 c4 f k c)] w fun e w'=>e=.returned (.bool false)∧Below w.heap.size w w':=by
 have hEq: ∀W,(Op.equalIn 10000 48 (.agg (kkq k c)) (.agg (ka k c.lim c.oth c.fr 0 c.size c.er))).run Tryz.prog W=.ok true W:=fun W=>(eq_own2 k c W).trans (by rw[h0])
 have H1:=Lib.hid h1
 clear h0 h1
 obtain⟨W1,hst,kb,ko,hall⟩:=own_new w (fkq A1 A2 A3 A4 c1 c2 c3 c4 f k c) 128 48 48 z13 (ka k c.lim c.oth c.fr 0 c.size c.er) info_cal rfl (by simp[Value.oneCell'])
 obtain⟨hckb,hfkb⟩:=blk_cells kb
 obtain⟨hcko,hfko⟩:=blk_cells ko
 have hltkb:=(lO kb)
 have hltko:=(lO ko)
 have hla:=CBox.call (CBox.mk (f:=f) (c:=c) (k:=k) kb)
 have hlb:=ld_row ko Tryz.underlying48 rfl info_cal
 have hlc:=CBox.whole (CBox.mk (f:=f) (c:=c) (k:=k) kb)
 go_enter Tryz.func213,Tryz.ntmps213
 go_wp2_with (first
  |(go_at_call 270;refine(limits2 A1 A2 A3 A4 c1 c2 c3 c4 f k c _ c.lim c.oth true _ (heap_at (by simp)) (by omega) H1).mono ?_;rintro e w1 ⟨rfl,hx⟩;obtain⟨kb,hckb,hfkb,hltkb⟩:=kB hx kb;obtain⟨ko,hcko,hfko,hltko⟩:=kB hx ko;have hall:Below w.heap.size w w1:=Below.trans (by go_grown) (hx.mono (by go_size));have hsz:w.heap.size<=w1.heap.size:=hall.size;have hl1:=CBox.whole (CBox.mk (f:=f) (c:=c) (k:=k) kb);clear hx))
 go_ret
 exact⟨rfl,by go_grown⟩
set_option maxHeartbeats 2000000 in
theorem width_3 (k:Int)(c:Pl.Cal)(w:World)(hS:f.st.length<=100000)(hL:f.li.length<=100000)(h0:Pl.own2 c=true)(h1:(Pl.limB f.li.length c.lim&&Pl.limB f.li.length c.oth)=true)(h2:decide (c.lim<c.oth)=true)(h3:Pl.limB f.st.length c.fr=false):
  Calls Tryz.prog 213 #[.agg (fkq A1 A2 A3 A4 c1 c2 c3 c4 f k c)] w fun e w'=>e=.returned (.bool false)∧Below w.heap.size w w':=by
 have hEq: ∀W,(Op.equalIn 10000 48 (.agg (kkq k c)) (.agg (ka k c.lim c.oth c.fr 0 c.size c.er))).run Tryz.prog W=.ok true W:=fun W=>(eq_own2 k c W).trans (by rw[h0])
 have H1:=Lib.hid h1
 have H3:=Lib.hid h3
 clear h0 h1 h3
 obtain⟨W1,hst,kb,ko,hall⟩:=own_new w (fkq A1 A2 A3 A4 c1 c2 c3 c4 f k c) 128 48 48 z13 (ka k c.lim c.oth c.fr 0 c.size c.er) info_cal rfl (by simp[Value.oneCell'])
 obtain⟨hckb,hfkb⟩:=blk_cells kb
 obtain⟨hcko,hfko⟩:=blk_cells ko
 have hltkb:=(lO kb)
 have hltko:=(lO ko)
 have hla:=CBox.call (CBox.mk (f:=f) (c:=c) (k:=k) kb)
 have hlb:=ld_row ko Tryz.underlying48 rfl info_cal
 have hlc:=CBox.whole (CBox.mk (f:=f) (c:=c) (k:=k) kb)
 go_enter Tryz.func213,Tryz.ntmps213
 go_wp2_with (first
  |(go_at_call 270;refine(limits2 A1 A2 A3 A4 c1 c2 c3 c4 f k c _ c.lim c.oth true _ (heap_at (by simp)) (by omega) H1).mono ?_;rintro e w1 ⟨rfl,hx⟩;obtain⟨kb,hckb,hfkb,hltkb⟩:=kB hx kb;obtain⟨ko,hcko,hfko,hltko⟩:=kB hx ko;have hall:Below w.heap.size w w1:=Below.trans (by go_grown) (hx.mono (by go_size));have hsz:w.heap.size<=w1.heap.size:=hall.size;have hl1:=CBox.whole (CBox.mk (f:=f) (c:=c) (k:=k) kb);clear hx)
  |(go_at_call 271;refine(stations1 A1 A2 A3 A4 c1 c2 c3 c4 f k c _ c.fr false _ (heap_at (by simp)) (by omega) H3).mono ?_;rintro e w3 ⟨rfl,hx⟩;obtain⟨kb,hckb,hfkb,hltkb⟩:=kB hx kb;obtain⟨ko,hcko,hfko,hltko⟩:=kB hx ko;have hall:Below w.heap.size w w3:=Below.trans (by go_grown) (hx.mono (by go_size));have hsz:w.heap.size<=w3.heap.size:=hall.size;have hl3:=CBox.whole (CBox.mk (f:=f) (c:=c) (k:=k) kb);clear hx))
 go_ret
 exact⟨rfl,by go_grown⟩
set_option maxHeartbeats 2000000 in
theorem width_4 (k:Int)(c:Pl.Cal)(w:World)(hS:f.st.length<=100000)(hL:f.li.length<=100000)(h0:Pl.own2 c=true)(h1:(Pl.limB f.li.length c.lim&&Pl.limB f.li.length c.oth)=true)(h2:decide (c.lim<c.oth)=true)(h3:Pl.limB f.st.length c.fr=true)(b:Bool)(h4:Pl.sizedB c 0=b):
  Calls Tryz.prog 213 #[.agg (fkq A1 A2 A3 A4 c1 c2 c3 c4 f k c)] w fun e w'=>e=.returned (.bool b)∧Below w.heap.size w w':=by
 have hEq: ∀W,(Op.equalIn 10000 48 (.agg (kkq k c)) (.agg (ka k c.lim c.oth c.fr 0 c.size c.er))).run Tryz.prog W=.ok true W:=fun W=>(eq_own2 k c W).trans (by rw[h0])
 have H1:=Lib.hid h1
 have H3:=Lib.hid h3
 have H4:=Lib.hid h4
 clear h0 h1 h3 h4
 obtain⟨W1,hst,kb,ko,hall⟩:=own_new w (fkq A1 A2 A3 A4 c1 c2 c3 c4 f k c) 128 48 48 z13 (ka k c.lim c.oth c.fr 0 c.size c.er) info_cal rfl (by simp[Value.oneCell'])
 obtain⟨hckb,hfkb⟩:=blk_cells kb
 obtain⟨hcko,hfko⟩:=blk_cells ko
 have hltkb:=(lO kb)
 have hltko:=(lO ko)
 have hla:=CBox.call (CBox.mk (f:=f) (c:=c) (k:=k) kb)
 have hlb:=ld_row ko Tryz.underlying48 rfl info_cal
 have hlc:=CBox.whole (CBox.mk (f:=f) (c:=c) (k:=k) kb)
 go_enter Tryz.func213,Tryz.ntmps213
 go_wp2_with (first
  |(go_at_call 270;refine(limits2 A1 A2 A3 A4 c1 c2 c3 c4 f k c _ c.lim c.oth true _ (heap_at (by simp)) (by omega) H1).mono ?_;rintro e w1 ⟨rfl,hx⟩;obtain⟨kb,hckb,hfkb,hltkb⟩:=kB hx kb;obtain⟨ko,hcko,hfko,hltko⟩:=kB hx ko;have hall:Below w.heap.size w w1:=Below.trans (by go_grown) (hx.mono (by go_size));have hsz:w.heap.size<=w1.heap.size:=hall.size;have hl1:=CBox.whole (CBox.mk (f:=f) (c:=c) (k:=k) kb);clear hx)
  |(go_at_call 271;refine(stations1 A1 A2 A3 A4 c1 c2 c3 c4 f k c _ c.fr true _ (heap_at (by simp)) (by omega) H3).mono ?_;rintro e w3 ⟨rfl,hx⟩;obtain⟨kb,hckb,hfkb,hltkb⟩:=kB hx kb;obtain⟨ko,hcko,hfko,hltko⟩:=kB hx ko;have hall:Below w.heap.size w w3:=Below.trans (by go_grown) (hx.mono (by go_size));have hsz:w.heap.size<=w3.heap.size:=hall.size;have hl3:=CBox.whole (CBox.mk (f:=f) (c:=c) (k:=k) kb);clear hx)
  |(go_at_call 272;refine(sized_a A1 A2 A3 A4 c1 c2 c3 c4 f k c 0 b _ H4).mono ?_;rintro e w4 ⟨rfl,hx⟩;obtain⟨kb,hckb,hfkb,hltkb⟩:=kB hx kb;obtain⟨ko,hcko,hfko,hltko⟩:=kB hx ko;have hall:Below w.heap.size w w4:=Below.trans (by go_grown) (hx.mono (by go_size));have hsz:w.heap.size<=w4.heap.size:=hall.size;have hl4:=CBox.whole (CBox.mk (f:=f) (c:=c) (k:=k) kb);clear hx))
 go_ret
 exact⟨rfl,by go_grown⟩
theorem width_a (k:Int)(c:Pl.Cal)(w:World)(hS:f.st.length<=100000)(hL:f.li.length<=100000):
  Calls Tryz.prog 213 #[.agg (fkq A1 A2 A3 A4 c1 c2 c3 c4 f k c)] w fun e w'=>e=.returned (.bool (Pl.widthB f.st.length f.li.length c))∧Below w.heap.size w w':=by
 unfold Pl.widthB
 cases h0:Pl.own2 c with
 |false=>simpa using width_0 A1 A2 A3 A4 c1 c2 c3 c4 f k c w hS hL h0
 |true=>
 cases h1:(Pl.limB f.li.length c.lim&&Pl.limB f.li.length c.oth)with
 |false=>simpa using width_1 A1 A2 A3 A4 c1 c2 c3 c4 f k c w hS hL h0 h1
 |true=>
 cases h2:decide (c.lim<c.oth)with
 |false=>simpa using width_2 A1 A2 A3 A4 c1 c2 c3 c4 f k c w hS hL h0 h1 h2
 |true=>
 cases h3:Pl.limB f.st.length c.fr with
 |false=>simpa using width_3 A1 A2 A3 A4 c1 c2 c3 c4 f k c w hS hL h0 h1 h2 h3
 |true=>
 simpa using width_4 A1 A2 A3 A4 c1 c2 c3 c4 f k c w hS hL h0 h1 h2 h3 _ rfl
set_option maxHeartbeats 2000000 in
theorem course_0 (k:Int)(c:Pl.Cal)(w:World)(_hS:f.st.length<=100000)(_hL:f.li.length<=100000)(h0:Pl.own3 c=false):
  Calls Tryz.prog 215 #[.agg (fkq A1 A2 A3 A4 c1 c2 c3 c4 f k c)] w fun e w'=>e=.returned (.bool false)∧Below w.heap.size w w':=by
 have hEq: ∀W,(Op.equalIn 10000 48 (.agg (kkq k c)) (.agg (kA13 k c.lim 0 c.fr c.till 0 0 c.crs.b c.crs.n c.crs.l c.crs.y c.crs.x c.crs.s))).run Tryz.prog W=.ok false W:=fun W=>(eq_own3 k c W).trans (by rw[h0])
 clear h0
 obtain⟨W1,hst,kb,ko,hall⟩:=own_new w (fkq A1 A2 A3 A4 c1 c2 c3 c4 f k c) 128 48 48 z13 (kA13 k c.lim 0 c.fr c.till 0 0 c.crs.b c.crs.n c.crs.l c.crs.y c.crs.x c.crs.s) info_cal rfl (by simp[Value.oneCell'])
 obtain⟨hckb,hfkb⟩:=blk_cells kb
 obtain⟨hcko,hfko⟩:=blk_cells ko
 have hltkb:=(lO kb)
 have hltko:=(lO ko)
 have hla:=CBox.call (CBox.mk (f:=f) (c:=c) (k:=k) kb)
 have hlb:=ld_row ko Tryz.underlying48 rfl info_cal
 have hlc:=CBox.whole (CBox.mk (f:=f) (c:=c) (k:=k) kb)
 have hld:=CBox.crs (CBox.mk (f:=f) (c:=c) (k:=k) (heap_alloc_new w (.cells (fkq A1 A2 A3 A4 c1 c2 c3 c4 f k c) 128)))
 go_enter Tryz.func215,Tryz.ntmps215
 go_wp2
 go_ret
 exact⟨rfl,by go_grown⟩
set_option maxHeartbeats 2000000 in
theorem course_1 (k:Int)(c:Pl.Cal)(w:World)(_hS:f.st.length<=100000)(hL:f.li.length<=100000)(h0:Pl.own3 c=true)(h1:Pl.limB f.li.length c.lim=false):
  Calls Tryz.prog 215 #[.agg (fkq A1 A2 A3 A4 c1 c2 c3 c4 f k c)] w fun e w'=>e=.returned (.bool false)∧Below w.heap.size w w':=by
 have hEq: ∀W,(Op.equalIn 10000 48 (.agg (kkq k c)) (.agg (kA13 k c.lim 0 c.fr c.till 0 0 c.crs.b c.crs.n c.crs.l c.crs.y c.crs.x c.crs.s))).run Tryz.prog W=.ok true W:=fun W=>(eq_own3 k c W).trans (by rw[h0])
 have H1:=Lib.hid h1
 clear h0 h1
 obtain⟨W1,hst,kb,ko,hall⟩:=own_new w (fkq A1 A2 A3 A4 c1 c2 c3 c4 f k c) 128 48 48 z13 (kA13 k c.lim 0 c.fr c.till 0 0 c.crs.b c.crs.n c.crs.l c.crs.y c.crs.x c.crs.s) info_cal rfl (by simp[Value.oneCell'])
 obtain⟨hckb,hfkb⟩:=blk_cells kb
 obtain⟨hcko,hfko⟩:=blk_cells ko
 have hltkb:=(lO kb)
 have hltko:=(lO ko)
 have hla:=CBox.call (CBox.mk (f:=f) (c:=c) (k:=k) kb)
 have hlb:=ld_row ko Tryz.underlying48 rfl info_cal
 have hlc:=CBox.whole (CBox.mk (f:=f) (c:=c) (k:=k) kb)
 have hld:=CBox.crs (CBox.mk (f:=f) (c:=c) (k:=k) (heap_alloc_new w (.cells (fkq A1 A2 A3 A4 c1 c2 c3 c4 f k c) 128)))
 go_enter Tryz.func215,Tryz.ntmps215
 go_wp2_with (first
  |(go_at_call 270;refine(limits1 A1 A2 A3 A4 c1 c2 c3 c4 f k c _ c.lim false _ (heap_at (by simp)) (by omega) H1).mono ?_;rintro e w1 ⟨rfl,hx⟩;obtain⟨kb,hckb,hfkb,hltkb⟩:=kB hx kb;obtain⟨ko,hcko,hfko,hltko⟩:=kB hx ko;have hall:Below w.heap.size w w1:=Below.trans (by go_grown) (hx.mono (by go_size));have hsz:w.heap.size<=w1.heap.size:=hall.size;have hl1:=CBox.whole (CBox.mk (f:=f) (c:=c) (k:=k) kb);have hm1:=CBox.crs (CBox.mk (f:=f) (c:=c) (k:=k) kb);clear hx))
 go_ret
 exact⟨rfl,by go_grown⟩
set_option maxHeartbeats 2000000 in
theorem course_2 (k:Int)(c:Pl.Cal)(w:World)(hS:f.st.length<=100000)(hL:f.li.length<=100000)(h0:Pl.own3 c=true)(h1:Pl.limB f.li.length c.lim=true)(h2:(Pl.limB f.st.length c.fr&&Pl.limB f.st.length c.till)=false):
  Calls Tryz.prog 215 #[.agg (fkq A1 A2 A3 A4 c1 c2 c3 c4 f k c)] w fun e w'=>e=.returned (.bool false)∧Below w.heap.size w w':=by
 have hEq: ∀W,(Op.equalIn 10000 48 (.agg (kkq k c)) (.agg (kA13 k c.lim 0 c.fr c.till 0 0 c.crs.b c.crs.n c.crs.l c.crs.y c.crs.x c.crs.s))).run Tryz.prog W=.ok true W:=fun W=>(eq_own3 k c W).trans (by rw[h0])
 have H1:=Lib.hid h1
 have H2:=Lib.hid h2
 clear h0 h1 h2
 obtain⟨W1,hst,kb,ko,hall⟩:=own_new w (fkq A1 A2 A3 A4 c1 c2 c3 c4 f k c) 128 48 48 z13 (kA13 k c.lim 0 c.fr c.till 0 0 c.crs.b c.crs.n c.crs.l c.crs.y c.crs.x c.crs.s) info_cal rfl (by simp[Value.oneCell'])
 obtain⟨hckb,hfkb⟩:=blk_cells kb
 obtain⟨hcko,hfko⟩:=blk_cells ko
 have hltkb:=(lO kb)
 have hltko:=(lO ko)
 have hla:=CBox.call (CBox.mk (f:=f) (c:=c) (k:=k) kb)
 have hlb:=ld_row ko Tryz.underlying48 rfl info_cal
 have hlc:=CBox.whole (CBox.mk (f:=f) (c:=c) (k:=k) kb)
 have hld:=CBox.crs (CBox.mk (f:=f) (c:=c) (k:=k) (heap_alloc_new w (.cells (fkq A1 A2 A3 A4 c1 c2 c3 c4 f k c) 128)))
 go_enter Tryz.func215,Tryz.ntmps215
 go_wp2_with (first
  |(go_at_call 270;refine(limits1 A1 A2 A3 A4 c1 c2 c3 c4 f k c _ c.lim true _ (heap_at (by simp)) (by omega) H1).mono ?_;rintro e w1 ⟨rfl,hx⟩;obtain⟨kb,hckb,hfkb,hltkb⟩:=kB hx kb;obtain⟨ko,hcko,hfko,hltko⟩:=kB hx ko;have hall:Below w.heap.size w w1:=Below.trans (by go_grown) (hx.mono (by go_size));have hsz:w.heap.size<=w1.heap.size:=hall.size;have hl1:=CBox.whole (CBox.mk (f:=f) (c:=c) (k:=k) kb);have hm1:=CBox.crs (CBox.mk (f:=f) (c:=c) (k:=k) kb);clear hx)
  |(go_at_call 271;refine(stations2 A1 A2 A3 A4 c1 c2 c3 c4 f k c _ c.fr c.till false _ (heap_at (by simp)) (by omega) H2).mono ?_;rintro e w2 ⟨rfl,hx⟩;obtain⟨kb,hckb,hfkb,hltkb⟩:=kB hx kb;obtain⟨ko,hcko,hfko,hltko⟩:=kB hx ko;have hall:Below w.heap.size w w2:=Below.trans (by go_grown) (hx.mono (by go_size));have hsz:w.heap.size<=w2.heap.size:=hall.size;have hl2:=CBox.whole (CBox.mk (f:=f) (c:=c) (k:=k) kb);have hm2:=CBox.crs (CBox.mk (f:=f) (c:=c) (k:=k) kb);clear hx))
 go_ret
 exact⟨rfl,by go_grown⟩
set_option maxHeartbeats 2000000 in
theorem course_3 (k:Int)(c:Pl.Cal)(w:World)(hS:f.st.length<=100000)(hL:f.li.length<=100000)(h0:Pl.own3 c=true)(h1:Pl.limB f.li.length c.lim=true)(h2:(Pl.limB f.st.length c.fr&&Pl.limB f.st.length c.till)=true)(h3:(c.fr !=c.till)=false):
  Calls Tryz.prog 215 #[.agg (fkq A1 A2 A3 A4 c1 c2 c3 c4 f k c)] w fun e w'=>e=.returned (.bool false)∧Below w.heap.size w w':=by
 have hEq: ∀W,(Op.equalIn 10000 48 (.agg (kkq k c)) (.agg (kA13 k c.lim 0 c.fr c.till 0 0 c.crs.b c.crs.n c.crs.l c.crs.y c.crs.x c.crs.s))).run Tryz.prog W=.ok true W:=fun W=>(eq_own3 k c W).trans (by rw[h0])
 have H1:=Lib.hid h1
 have H2:=Lib.hid h2
 clear h0 h1 h2
 obtain⟨W1,hst,kb,ko,hall⟩:=own_new w (fkq A1 A2 A3 A4 c1 c2 c3 c4 f k c) 128 48 48 z13 (kA13 k c.lim 0 c.fr c.till 0 0 c.crs.b c.crs.n c.crs.l c.crs.y c.crs.x c.crs.s) info_cal rfl (by simp[Value.oneCell'])
 obtain⟨hckb,hfkb⟩:=blk_cells kb
 obtain⟨hcko,hfko⟩:=blk_cells ko
 have hltkb:=(lO kb)
 have hltko:=(lO ko)
 have hla:=CBox.call (CBox.mk (f:=f) (c:=c) (k:=k) kb)
 have hlb:=ld_row ko Tryz.underlying48 rfl info_cal
 have hlc:=CBox.whole (CBox.mk (f:=f) (c:=c) (k:=k) kb)
 have hld:=CBox.crs (CBox.mk (f:=f) (c:=c) (k:=k) (heap_alloc_new w (.cells (fkq A1 A2 A3 A4 c1 c2 c3 c4 f k c) 128)))
 go_enter Tryz.func215,Tryz.ntmps215
 go_wp2_with (first
  |(go_at_call 270;refine(limits1 A1 A2 A3 A4 c1 c2 c3 c4 f k c _ c.lim true _ (heap_at (by simp)) (by omega) H1).mono ?_;rintro e w1 ⟨rfl,hx⟩;obtain⟨kb,hckb,hfkb,hltkb⟩:=kB hx kb;obtain⟨ko,hcko,hfko,hltko⟩:=kB hx ko;have hall:Below w.heap.size w w1:=Below.trans (by go_grown) (hx.mono (by go_size));have hsz:w.heap.size<=w1.heap.size:=hall.size;have hl1:=CBox.whole (CBox.mk (f:=f) (c:=c) (k:=k) kb);have hm1:=CBox.crs (CBox.mk (f:=f) (c:=c) (k:=k) kb);clear hx)
  |(go_at_call 271;refine(stations2 A1 A2 A3 A4 c1 c2 c3 c4 f k c _ c.fr c.till true _ (heap_at (by simp)) (by omega) H2).mono ?_;rintro e w2 ⟨rfl,hx⟩;obtain⟨kb,hckb,hfkb,hltkb⟩:=kB hx kb;obtain⟨ko,hcko,hfko,hltko⟩:=kB hx ko;have hall:Below w.heap.size w w2:=Below.trans (by go_grown) (hx.mono (by go_size));have hsz:w.heap.size<=w2.heap.size:=hall.size;have hl2:=CBox.whole (CBox.mk (f:=f) (c:=c) (k:=k) kb);have hm2:=CBox.crs (CBox.mk (f:=f) (c:=c) (k:=k) kb);clear hx))
 go_ret
 exact⟨rfl,by go_grown⟩
set_option maxHeartbeats 2000000 in
theorem course_4 (k:Int)(c:Pl.Cal)(w:World)(hS:f.st.length<=100000)(hL:f.li.length<=100000)(h0:Pl.own3 c=true)(h1:Pl.limB f.li.length c.lim=true)(h2:(Pl.limB f.st.length c.fr&&Pl.limB f.st.length c.till)=true)(h3:(c.fr !=c.till)=true)(b:Bool)(h4:c.crs.ok=b):
  Calls Tryz.prog 215 #[.agg (fkq A1 A2 A3 A4 c1 c2 c3 c4 f k c)] w fun e w'=>e=.returned (.bool b)∧Below w.heap.size w w':=by
 have hEq: ∀W,(Op.equalIn 10000 48 (.agg (kkq k c)) (.agg (kA13 k c.lim 0 c.fr c.till 0 0 c.crs.b c.crs.n c.crs.l c.crs.y c.crs.x c.crs.s))).run Tryz.prog W=.ok true W:=fun W=>(eq_own3 k c W).trans (by rw[h0])
 have H1:=Lib.hid h1
 have H2:=Lib.hid h2
 have hc4:(Pl.err (Pl.courseOk c.crs.b c.crs.n c.crs.l c.crs.y c.crs.x c.crs.s)==0)=b:=by
  rw[<-h4];unfold Pl.Crs.ok;cases Pl.courseOk c.crs.b c.crs.n c.crs.l c.crs.y c.crs.x c.crs.s<;>rfl
 clear h0 h1 h2 h4
 obtain⟨W1,hst,kb,ko,hall⟩:=own_new w (fkq A1 A2 A3 A4 c1 c2 c3 c4 f k c) 128 48 48 z13 (kA13 k c.lim 0 c.fr c.till 0 0 c.crs.b c.crs.n c.crs.l c.crs.y c.crs.x c.crs.s) info_cal rfl (by simp[Value.oneCell'])
 obtain⟨hckb,hfkb⟩:=blk_cells kb
 obtain⟨hcko,hfko⟩:=blk_cells ko
 have hltkb:=(lO kb)
 have hltko:=(lO ko)
 have hla:=CBox.call (CBox.mk (f:=f) (c:=c) (k:=k) kb)
 have hlb:=ld_row ko Tryz.underlying48 rfl info_cal
 have hlc:=CBox.whole (CBox.mk (f:=f) (c:=c) (k:=k) kb)
 have hld:=CBox.crs (CBox.mk (f:=f) (c:=c) (k:=k) (heap_alloc_new w (.cells (fkq A1 A2 A3 A4 c1 c2 c3 c4 f k c) 128)))
 go_enter Tryz.func215,Tryz.ntmps215
 go_wp2_with (first
  |(go_at_call 270;refine(limits1 A1 A2 A3 A4 c1 c2 c3 c4 f k c _ c.lim true _ (heap_at (by simp)) (by omega) H1).mono ?_;rintro e w1 ⟨rfl,hx⟩;obtain⟨kb,hckb,hfkb,hltkb⟩:=kB hx kb;obtain⟨ko,hcko,hfko,hltko⟩:=kB hx ko;have hall:Below w.heap.size w w1:=Below.trans (by go_grown) (hx.mono (by go_size));have hsz:w.heap.size<=w1.heap.size:=hall.size;have hl1:=CBox.whole (CBox.mk (f:=f) (c:=c) (k:=k) kb);have hm1:=CBox.crs (CBox.mk (f:=f) (c:=c) (k:=k) kb);clear hx)
  |(go_at_call 271;refine(stations2 A1 A2 A3 A4 c1 c2 c3 c4 f k c _ c.fr c.till true _ (heap_at (by simp)) (by omega) H2).mono ?_;rintro e w2 ⟨rfl,hx⟩;obtain⟨kb,hckb,hfkb,hltkb⟩:=kB hx kb;obtain⟨ko,hcko,hfko,hltko⟩:=kB hx ko;have hall:Below w.heap.size w w2:=Below.trans (by go_grown) (hx.mono (by go_size));have hsz:w.heap.size<=w2.heap.size:=hall.size;have hl2:=CBox.whole (CBox.mk (f:=f) (c:=c) (k:=k) kb);have hm2:=CBox.crs (CBox.mk (f:=f) (c:=c) (k:=k) kb);clear hx)
  |(go_at_call 109;refine(course_a _ _ _ _ _ _ _).mono ?_;rintro e w4 ⟨rfl,hx⟩;obtain⟨kb,hckb,hfkb,hltkb⟩:=kB hx kb;obtain⟨ko,hcko,hfko,hltko⟩:=kB hx ko;have hall:Below w.heap.size w w4:=Below.trans (by go_grown) (hx.mono (by go_size));have hsz:w.heap.size<=w4.heap.size:=hall.size;have hl4:=CBox.whole (CBox.mk (f:=f) (c:=c) (k:=k) kb);have hm4:=CBox.crs (CBox.mk (f:=f) (c:=c) (k:=k) kb);clear hx))
 go_ret
 exact⟨rfl,by go_grown⟩
theorem courseD_a (k:Int)(c:Pl.Cal)(w:World)(hS:f.st.length<=100000)(hL:f.li.length<=100000):
  Calls Tryz.prog 215 #[.agg (fkq A1 A2 A3 A4 c1 c2 c3 c4 f k c)] w fun e w'=>e=.returned (.bool (Pl.courseB f.st.length f.li.length c))∧Below w.heap.size w w':=by
 unfold Pl.courseB
 cases h0:Pl.own3 c with
 |false=>simpa using course_0 A1 A2 A3 A4 c1 c2 c3 c4 f k c w hS hL h0
 |true=>
 cases h1:Pl.limB f.li.length c.lim with
 |false=>simpa using course_1 A1 A2 A3 A4 c1 c2 c3 c4 f k c w hS hL h0 h1
 |true=>
 cases h2:(Pl.limB f.st.length c.fr&&Pl.limB f.st.length c.till)with
 |false=>simpa using course_2 A1 A2 A3 A4 c1 c2 c3 c4 f k c w hS hL h0 h1 h2
 |true=>
 cases h3:(c.fr !=c.till)with
 |false=>simpa using course_3 A1 A2 A3 A4 c1 c2 c3 c4 f k c w hS hL h0 h1 h2 h3
 |true=>
 simpa using course_4 A1 A2 A3 A4 c1 c2 c3 c4 f k c w hS hL h0 h1 h2 h3 _ rfl
set_option maxHeartbeats 2000000 in
theorem along_0 (k:Int)(c:Pl.Cal)(w:World)(_hS:f.st.length<=100000)(_hL:f.li.length<=100000)(h0:Pl.own4 c=false):
  Calls Tryz.prog 217 #[.agg (fkq A1 A2 A3 A4 c1 c2 c3 c4 f k c)] w fun e w'=>e=.returned (.bool false)∧Below w.heap.size w w':=by
 have hEq: ∀W,(Op.equalIn 10000 48 (.agg (kkq k c)) (.agg (ka k c.lim c.oth c.fr c.till 0 0))).run Tryz.prog W=.ok false W:=fun W=>(eq_own4 k c W).trans (by rw[h0])
 clear h0
 obtain⟨W1,hst,kb,ko,hall⟩:=own_new w (fkq A1 A2 A3 A4 c1 c2 c3 c4 f k c) 128 48 48 z13 (ka k c.lim c.oth c.fr c.till 0 0) info_cal rfl (by simp[Value.oneCell'])
 obtain⟨hckb,hfkb⟩:=blk_cells kb
 obtain⟨hcko,hfko⟩:=blk_cells ko
 have hltkb:=(lO kb)
 have hltko:=(lO ko)
 have hla:=CBox.call (CBox.mk (f:=f) (c:=c) (k:=k) kb)
 have hlb:=ld_row ko Tryz.underlying48 rfl info_cal
 have hlc:=CBox.whole (CBox.mk (f:=f) (c:=c) (k:=k) kb)
 go_enter Tryz.func217,Tryz.ntmps217
 go_wp2
 go_ret
 exact⟨rfl,by go_grown⟩
set_option maxHeartbeats 2000000 in
theorem along_1 (k:Int)(c:Pl.Cal)(w:World)(_hS:f.st.length<=100000)(hL:f.li.length<=100000)(h0:Pl.own4 c=true)(h1:(Pl.limB f.li.length c.lim&&Pl.limB f.li.length c.oth)=false):
  Calls Tryz.prog 217 #[.agg (fkq A1 A2 A3 A4 c1 c2 c3 c4 f k c)] w fun e w'=>e=.returned (.bool false)∧Below w.heap.size w w':=by
 have hEq: ∀W,(Op.equalIn 10000 48 (.agg (kkq k c)) (.agg (ka k c.lim c.oth c.fr c.till 0 0))).run Tryz.prog W=.ok true W:=fun W=>(eq_own4 k c W).trans (by rw[h0])
 have H1:=Lib.hid h1
 clear h0 h1
 obtain⟨W1,hst,kb,ko,hall⟩:=own_new w (fkq A1 A2 A3 A4 c1 c2 c3 c4 f k c) 128 48 48 z13 (ka k c.lim c.oth c.fr c.till 0 0) info_cal rfl (by simp[Value.oneCell'])
 obtain⟨hckb,hfkb⟩:=blk_cells kb
 obtain⟨hcko,hfko⟩:=blk_cells ko
 have hltkb:=(lO kb)
 have hltko:=(lO ko)
 have hla:=CBox.call (CBox.mk (f:=f) (c:=c) (k:=k) kb)
 have hlb:=ld_row ko Tryz.underlying48 rfl info_cal
 have hlc:=CBox.whole (CBox.mk (f:=f) (c:=c) (k:=k) kb)
 go_enter Tryz.func217,Tryz.ntmps217
 go_wp2_with (first
  |(go_at_call 270;refine(limits2 A1 A2 A3 A4 c1 c2 c3 c4 f k c _ c.lim c.oth false _ (heap_at (by simp)) (by omega) H1).mono ?_;rintro e w1 ⟨rfl,hx⟩;obtain⟨kb,hckb,hfkb,hltkb⟩:=kB hx kb;obtain⟨ko,hcko,hfko,hltko⟩:=kB hx ko;have hall:Below w.heap.size w w1:=Below.trans (by go_grown) (hx.mono (by go_size));have hsz:w.heap.size<=w1.heap.size:=hall.size;have hl1:=CBox.whole (CBox.mk (f:=f) (c:=c) (k:=k) kb);clear hx))
 go_ret
 exact⟨rfl,by go_grown⟩
set_option maxHeartbeats 2000000 in
theorem along_2 (k:Int)(c:Pl.Cal)(w:World)(_hS:f.st.length<=100000)(hL:f.li.length<=100000)(h0:Pl.own4 c=true)(h1:(Pl.limB f.li.length c.lim&&Pl.limB f.li.length c.oth)=true)(h2:decide (c.lim<c.oth)=false):
  Calls Tryz.prog 217 #[.agg (fkq A1 A2 A3 A4 c1 c2 c3 c4 f k c)] w fun e w'=>e=.returned (.bool false)∧Below w.heap.size w w':=by
 have hEq: ∀W,(Op.equalIn 10000 48 (.agg (kkq k c)) (.agg (ka k c.lim c.oth c.fr c.till 0 0))).run Tryz.prog W=.ok true W:=fun W=>(eq_own4 k c W).trans (by rw[h0])
 have H1:=Lib.hid h1
 clear h0 h1
 obtain⟨W1,hst,kb,ko,hall⟩:=own_new w (fkq A1 A2 A3 A4 c1 c2 c3 c4 f k c) 128 48 48 z13 (ka k c.lim c.oth c.fr c.till 0 0) info_cal rfl (by simp[Value.oneCell'])
 obtain⟨hckb,hfkb⟩:=blk_cells kb
 obtain⟨hcko,hfko⟩:=blk_cells ko
 have hltkb:=(lO kb)
 have hltko:=(lO ko)
 have hla:=CBox.call (CBox.mk (f:=f) (c:=c) (k:=k) kb)
 have hlb:=ld_row ko Tryz.underlying48 rfl info_cal
 have hlc:=CBox.whole (CBox.mk (f:=f) (c:=c) (k:=k) kb)
 go_enter Tryz.func217,Tryz.ntmps217
 go_wp2_with (first
  |(go_at_call 270;refine(limits2 A1 A2 A3 A4 c1 c2 c3 c4 f k c _ c.lim c.oth true _ (heap_at (by simp)) (by omega) H1).mono ?_;rintro e w1 ⟨rfl,hx⟩;obtain⟨kb,hckb,hfkb,hltkb⟩:=kB hx kb;obtain⟨ko,hcko,hfko,hltko⟩:=kB hx ko;have hall:Below w.heap.size w w1:=Below.trans (by go_grown) (hx.mono (by go_size));have hsz:w.heap.size<=w1.heap.size:=hall.size;have hl1:=CBox.whole (CBox.mk (f:=f) (c:=c) (k:=k) kb);clear hx))
 go_ret
 exact⟨rfl,by go_grown⟩
set_option maxHeartbeats 2000000 in
theorem along_3 (k:Int)(c:Pl.Cal)(w:World)(hS:f.st.length<=100000)(hL:f.li.length<=100000)(h0:Pl.own4 c=true)(h1:(Pl.limB f.li.length c.lim&&Pl.limB f.li.length c.oth)=true)(h2:decide (c.lim<c.oth)=true)(h3:(Pl.limB f.st.length c.fr&&Pl.limB f.st.length c.till)=false):
  Calls Tryz.prog 217 #[.agg (fkq A1 A2 A3 A4 c1 c2 c3 c4 f k c)] w fun e w'=>e=.returned (.bool false)∧Below w.heap.size w w':=by
 have hEq: ∀W,(Op.equalIn 10000 48 (.agg (kkq k c)) (.agg (ka k c.lim c.oth c.fr c.till 0 0))).run Tryz.prog W=.ok true W:=fun W=>(eq_own4 k c W).trans (by rw[h0])
 have H1:=Lib.hid h1
 have H3:=Lib.hid h3
 clear h0 h1 h3
 obtain⟨W1,hst,kb,ko,hall⟩:=own_new w (fkq A1 A2 A3 A4 c1 c2 c3 c4 f k c) 128 48 48 z13 (ka k c.lim c.oth c.fr c.till 0 0) info_cal rfl (by simp[Value.oneCell'])
 obtain⟨hckb,hfkb⟩:=blk_cells kb
 obtain⟨hcko,hfko⟩:=blk_cells ko
 have hltkb:=(lO kb)
 have hltko:=(lO ko)
 have hla:=CBox.call (CBox.mk (f:=f) (c:=c) (k:=k) kb)
 have hlb:=ld_row ko Tryz.underlying48 rfl info_cal
 have hlc:=CBox.whole (CBox.mk (f:=f) (c:=c) (k:=k) kb)
 go_enter Tryz.func217,Tryz.ntmps217
 go_wp2_with (first
  |(go_at_call 270;refine(limits2 A1 A2 A3 A4 c1 c2 c3 c4 f k c _ c.lim c.oth true _ (heap_at (by simp)) (by omega) H1).mono ?_;rintro e w1 ⟨rfl,hx⟩;obtain⟨kb,hckb,hfkb,hltkb⟩:=kB hx kb;obtain⟨ko,hcko,hfko,hltko⟩:=kB hx ko;have hall:Below w.heap.size w w1:=Below.trans (by go_grown) (hx.mono (by go_size));have hsz:w.heap.size<=w1.heap.size:=hall.size;have hl1:=CBox.whole (CBox.mk (f:=f) (c:=c) (k:=k) kb);clear hx)
  |(go_at_call 271;refine(stations2 A1 A2 A3 A4 c1 c2 c3 c4 f k c _ c.fr c.till false _ (heap_at (by simp)) (by omega) H3).mono ?_;rintro e w3 ⟨rfl,hx⟩;obtain⟨kb,hckb,hfkb,hltkb⟩:=kB hx kb;obtain⟨ko,hcko,hfko,hltko⟩:=kB hx ko;have hall:Below w.heap.size w w3:=Below.trans (by go_grown) (hx.mono (by go_size));have hsz:w.heap.size<=w3.heap.size:=hall.size;have hl3:=CBox.whole (CBox.mk (f:=f) (c:=c) (k:=k) kb);clear hx))
 go_ret
 exact⟨rfl,by go_grown⟩
set_option maxHeartbeats 2000000 in
theorem along_4 (k:Int)(c:Pl.Cal)(w:World)(hS:f.st.length<=100000)(hL:f.li.length<=100000)(h0:Pl.own4 c=true)(h1:(Pl.limB f.li.length c.lim&&Pl.limB f.li.length c.oth)=true)(h2:decide (c.lim<c.oth)=true)(h3:(Pl.limB f.st.length c.fr&&Pl.limB f.st.length c.till)=true)(b:Bool)(h4:decide (c.fr<c.till)=b):
  Calls Tryz.prog 217 #[.agg (fkq A1 A2 A3 A4 c1 c2 c3 c4 f k c)] w fun e w'=>e=.returned (.bool b)∧Below w.heap.size w w':=by
 have hEq: ∀W,(Op.equalIn 10000 48 (.agg (kkq k c)) (.agg (ka k c.lim c.oth c.fr c.till 0 0))).run Tryz.prog W=.ok true W:=fun W=>(eq_own4 k c W).trans (by rw[h0])
 have H1:=Lib.hid h1
 have H3:=Lib.hid h3
 clear h0 h1 h3
 obtain⟨W1,hst,kb,ko,hall⟩:=own_new w (fkq A1 A2 A3 A4 c1 c2 c3 c4 f k c) 128 48 48 z13 (ka k c.lim c.oth c.fr c.till 0 0) info_cal rfl (by simp[Value.oneCell'])
 obtain⟨hckb,hfkb⟩:=blk_cells kb
 obtain⟨hcko,hfko⟩:=blk_cells ko
 have hltkb:=(lO kb)
 have hltko:=(lO ko)
 have hla:=CBox.call (CBox.mk (f:=f) (c:=c) (k:=k) kb)
 have hlb:=ld_row ko Tryz.underlying48 rfl info_cal
 have hlc:=CBox.whole (CBox.mk (f:=f) (c:=c) (k:=k) kb)
 go_enter Tryz.func217,Tryz.ntmps217
 go_wp2_with (first
  |(go_at_call 270;refine(limits2 A1 A2 A3 A4 c1 c2 c3 c4 f k c _ c.lim c.oth true _ (heap_at (by simp)) (by omega) H1).mono ?_;rintro e w1 ⟨rfl,hx⟩;obtain⟨kb,hckb,hfkb,hltkb⟩:=kB hx kb;obtain⟨ko,hcko,hfko,hltko⟩:=kB hx ko;have hall:Below w.heap.size w w1:=Below.trans (by go_grown) (hx.mono (by go_size));have hsz:w.heap.size<=w1.heap.size:=hall.size;have hl1:=CBox.whole (CBox.mk (f:=f) (c:=c) (k:=k) kb);clear hx)
  |(go_at_call 271;refine(stations2 A1 A2 A3 A4 c1 c2 c3 c4 f k c _ c.fr c.till true _ (heap_at (by simp)) (by omega) H3).mono ?_;rintro e w3 ⟨rfl,hx⟩;obtain⟨kb,hckb,hfkb,hltkb⟩:=kB hx kb;obtain⟨ko,hcko,hfko,hltko⟩:=kB hx ko;have hall:Below w.heap.size w w3:=Below.trans (by go_grown) (hx.mono (by go_size));have hsz:w.heap.size<=w3.heap.size:=hall.size;have hl3:=CBox.whole (CBox.mk (f:=f) (c:=c) (k:=k) kb);clear hx))
 go_ret
 exact⟨rfl,by go_grown⟩
theorem along_a (k:Int)(c:Pl.Cal)(w:World)(hS:f.st.length<=100000)(hL:f.li.length<=100000):
  Calls Tryz.prog 217 #[.agg (fkq A1 A2 A3 A4 c1 c2 c3 c4 f k c)] w fun e w'=>e=.returned (.bool (Pl.alongB f.st.length f.li.length c))∧Below w.heap.size w w':=by
 unfold Pl.alongB
 cases h0:Pl.own4 c with
 |false=>simpa using along_0 A1 A2 A3 A4 c1 c2 c3 c4 f k c w hS hL h0
 |true=>
 cases h1:(Pl.limB f.li.length c.lim&&Pl.limB f.li.length c.oth)with
 |false=>simpa using along_1 A1 A2 A3 A4 c1 c2 c3 c4 f k c w hS hL h0 h1
 |true=>
 cases h2:decide (c.lim<c.oth)with
 |false=>simpa using along_2 A1 A2 A3 A4 c1 c2 c3 c4 f k c w hS hL h0 h1 h2
 |true=>
 cases h3:(Pl.limB f.st.length c.fr&&Pl.limB f.st.length c.till)with
 |false=>simpa using along_3 A1 A2 A3 A4 c1 c2 c3 c4 f k c w hS hL h0 h1 h2 h3
 |true=>
 simpa using along_4 A1 A2 A3 A4 c1 c2 c3 c4 f k c w hS hL h0 h1 h2 h3 _ rfl
set_option maxHeartbeats 2000000 in
theorem level_0 (k:Int)(c:Pl.Cal)(w:World)(_hS:f.st.length<=100000)(_hL:f.li.length<=100000)(h0:Pl.own5 c=false):
  Calls Tryz.prog 219 #[.agg (fkq A1 A2 A3 A4 c1 c2 c3 c4 f k c)] w fun e w'=>e=.returned (.bool false)∧Below w.heap.size w w':=by
 have hEq: ∀W,(Op.equalIn 10000 48 (.agg (kkq k c)) (.agg (ka k c.lim 0 c.fr c.till c.size c.er))).run Tryz.prog W=.ok false W:=fun W=>(eq_own5 k c W).trans (by rw[h0])
 clear h0
 obtain⟨W1,hst,kb,ko,hall⟩:=own_new w (fkq A1 A2 A3 A4 c1 c2 c3 c4 f k c) 128 48 48 z13 (ka k c.lim 0 c.fr c.till c.size c.er) info_cal rfl (by simp[Value.oneCell'])
 obtain⟨hckb,hfkb⟩:=blk_cells kb
 obtain⟨hcko,hfko⟩:=blk_cells ko
 have hltkb:=(lO kb)
 have hltko:=(lO ko)
 have hla:=CBox.call (CBox.mk (f:=f) (c:=c) (k:=k) kb)
 have hlb:=ld_row ko Tryz.underlying48 rfl info_cal
 have hlc:=CBox.whole (CBox.mk (f:=f) (c:=c) (k:=k) kb)
 go_enter Tryz.func219,Tryz.ntmps219
 go_wp2
 go_ret
 exact⟨rfl,by go_grown⟩
set_option maxHeartbeats 2000000 in
theorem level_1 (k:Int)(c:Pl.Cal)(w:World)(_hS:f.st.length<=100000)(hL:f.li.length<=100000)(h0:Pl.own5 c=true)(h1:Pl.limB f.li.length c.lim=false):
  Calls Tryz.prog 219 #[.agg (fkq A1 A2 A3 A4 c1 c2 c3 c4 f k c)] w fun e w'=>e=.returned (.bool false)∧Below w.heap.size w w':=by
 have hEq: ∀W,(Op.equalIn 10000 48 (.agg (kkq k c)) (.agg (ka k c.lim 0 c.fr c.till c.size c.er))).run Tryz.prog W=.ok true W:=fun W=>(eq_own5 k c W).trans (by rw[h0])
 have H1:=Lib.hid h1
 clear h0 h1
 obtain⟨W1,hst,kb,ko,hall⟩:=own_new w (fkq A1 A2 A3 A4 c1 c2 c3 c4 f k c) 128 48 48 z13 (ka k c.lim 0 c.fr c.till c.size c.er) info_cal rfl (by simp[Value.oneCell'])
 obtain⟨hckb,hfkb⟩:=blk_cells kb
 obtain⟨hcko,hfko⟩:=blk_cells ko
 have hltkb:=(lO kb)
 have hltko:=(lO ko)
 have hla:=CBox.call (CBox.mk (f:=f) (c:=c) (k:=k) kb)
 have hlb:=ld_row ko Tryz.underlying48 rfl info_cal
 have hlc:=CBox.whole (CBox.mk (f:=f) (c:=c) (k:=k) kb)
 go_enter Tryz.func219,Tryz.ntmps219
 go_wp2_with (first
  |(go_at_call 270;refine(limits1 A1 A2 A3 A4 c1 c2 c3 c4 f k c _ c.lim false _ (heap_at (by simp)) (by omega) H1).mono ?_;rintro e w1 ⟨rfl,hx⟩;obtain⟨kb,hckb,hfkb,hltkb⟩:=kB hx kb;obtain⟨ko,hcko,hfko,hltko⟩:=kB hx ko;have hall:Below w.heap.size w w1:=Below.trans (by go_grown) (hx.mono (by go_size));have hsz:w.heap.size<=w1.heap.size:=hall.size;have hl1:=CBox.whole (CBox.mk (f:=f) (c:=c) (k:=k) kb);clear hx))
 go_ret
 exact⟨rfl,by go_grown⟩
set_option maxHeartbeats 2000000 in
theorem level_2 (k:Int)(c:Pl.Cal)(w:World)(hS:f.st.length<=100000)(hL:f.li.length<=100000)(h0:Pl.own5 c=true)(h1:Pl.limB f.li.length c.lim=true)(h2:(Pl.limB f.st.length c.fr&&Pl.limB f.st.length c.till)=false):
  Calls Tryz.prog 219 #[.agg (fkq A1 A2 A3 A4 c1 c2 c3 c4 f k c)] w fun e w'=>e=.returned (.bool false)∧Below w.heap.size w w':=by
 have hEq: ∀W,(Op.equalIn 10000 48 (.agg (kkq k c)) (.agg (ka k c.lim 0 c.fr c.till c.size c.er))).run Tryz.prog W=.ok true W:=fun W=>(eq_own5 k c W).trans (by rw[h0])
 have H1:=Lib.hid h1
 have H2:=Lib.hid h2
 clear h0 h1 h2
 obtain⟨W1,hst,kb,ko,hall⟩:=own_new w (fkq A1 A2 A3 A4 c1 c2 c3 c4 f k c) 128 48 48 z13 (ka k c.lim 0 c.fr c.till c.size c.er) info_cal rfl (by simp[Value.oneCell'])
 obtain⟨hckb,hfkb⟩:=blk_cells kb
 obtain⟨hcko,hfko⟩:=blk_cells ko
 have hltkb:=(lO kb)
 have hltko:=(lO ko)
 have hla:=CBox.call (CBox.mk (f:=f) (c:=c) (k:=k) kb)
 have hlb:=ld_row ko Tryz.underlying48 rfl info_cal
 have hlc:=CBox.whole (CBox.mk (f:=f) (c:=c) (k:=k) kb)
 go_enter Tryz.func219,Tryz.ntmps219
 go_wp2_with (first
  |(go_at_call 270;refine(limits1 A1 A2 A3 A4 c1 c2 c3 c4 f k c _ c.lim true _ (heap_at (by simp)) (by omega) H1).mono ?_;rintro e w1 ⟨rfl,hx⟩;obtain⟨kb,hckb,hfkb,hltkb⟩:=kB hx kb;obtain⟨ko,hcko,hfko,hltko⟩:=kB hx ko;have hall:Below w.heap.size w w1:=Below.trans (by go_grown) (hx.mono (by go_size));have hsz:w.heap.size<=w1.heap.size:=hall.size;have hl1:=CBox.whole (CBox.mk (f:=f) (c:=c) (k:=k) kb);clear hx)
  |(go_at_call 271;refine(stations2 A1 A2 A3 A4 c1 c2 c3 c4 f k c _ c.fr c.till false _ (heap_at (by simp)) (by omega) H2).mono ?_;rintro e w2 ⟨rfl,hx⟩;obtain⟨kb,hckb,hfkb,hltkb⟩:=kB hx kb;obtain⟨ko,hcko,hfko,hltko⟩:=kB hx ko;have hall:Below w.heap.size w w2:=Below.trans (by go_grown) (hx.mono (by go_size));have hsz:w.heap.size<=w2.heap.size:=hall.size;have hl2:=CBox.whole (CBox.mk (f:=f) (c:=c) (k:=k) kb);clear hx))
 go_ret
 exact⟨rfl,by go_grown⟩
set_option maxHeartbeats 2000000 in
theorem level_3 (k:Int)(c:Pl.Cal)(w:World)(hS:f.st.length<=100000)(hL:f.li.length<=100000)(h0:Pl.own5 c=true)(h1:Pl.limB f.li.length c.lim=true)(h2:(Pl.limB f.st.length c.fr&&Pl.limB f.st.length c.till)=true)(h3:(c.fr !=c.till)=false):
  Calls Tryz.prog 219 #[.agg (fkq A1 A2 A3 A4 c1 c2 c3 c4 f k c)] w fun e w'=>e=.returned (.bool false)∧Below w.heap.size w w':=by
 have hEq: ∀W,(Op.equalIn 10000 48 (.agg (kkq k c)) (.agg (ka k c.lim 0 c.fr c.till c.size c.er))).run Tryz.prog W=.ok true W:=fun W=>(eq_own5 k c W).trans (by rw[h0])
 have H1:=Lib.hid h1
 have H2:=Lib.hid h2
 clear h0 h1 h2
 obtain⟨W1,hst,kb,ko,hall⟩:=own_new w (fkq A1 A2 A3 A4 c1 c2 c3 c4 f k c) 128 48 48 z13 (ka k c.lim 0 c.fr c.till c.size c.er) info_cal rfl (by simp[Value.oneCell'])
 obtain⟨hckb,hfkb⟩:=blk_cells kb
 obtain⟨hcko,hfko⟩:=blk_cells ko
 have hltkb:=(lO kb)
 have hltko:=(lO ko)
 have hla:=CBox.call (CBox.mk (f:=f) (c:=c) (k:=k) kb)
 have hlb:=ld_row ko Tryz.underlying48 rfl info_cal
 have hlc:=CBox.whole (CBox.mk (f:=f) (c:=c) (k:=k) kb)
 go_enter Tryz.func219,Tryz.ntmps219
 go_wp2_with (first
  |(go_at_call 270;refine(limits1 A1 A2 A3 A4 c1 c2 c3 c4 f k c _ c.lim true _ (heap_at (by simp)) (by omega) H1).mono ?_;rintro e w1 ⟨rfl,hx⟩;obtain⟨kb,hckb,hfkb,hltkb⟩:=kB hx kb;obtain⟨ko,hcko,hfko,hltko⟩:=kB hx ko;have hall:Below w.heap.size w w1:=Below.trans (by go_grown) (hx.mono (by go_size));have hsz:w.heap.size<=w1.heap.size:=hall.size;have hl1:=CBox.whole (CBox.mk (f:=f) (c:=c) (k:=k) kb);clear hx)
  |(go_at_call 271;refine(stations2 A1 A2 A3 A4 c1 c2 c3 c4 f k c _ c.fr c.till true _ (heap_at (by simp)) (by omega) H2).mono ?_;rintro e w2 ⟨rfl,hx⟩;obtain⟨kb,hckb,hfkb,hltkb⟩:=kB hx kb;obtain⟨ko,hcko,hfko,hltko⟩:=kB hx ko;have hall:Below w.heap.size w w2:=Below.trans (by go_grown) (hx.mono (by go_size));have hsz:w.heap.size<=w2.heap.size:=hall.size;have hl2:=CBox.whole (CBox.mk (f:=f) (c:=c) (k:=k) kb);clear hx))
 go_ret
 exact⟨rfl,by go_grown⟩
set_option maxHeartbeats 2000000 in
theorem level_4 (k:Int)(c:Pl.Cal)(w:World)(hS:f.st.length<=100000)(hL:f.li.length<=100000)(h0:Pl.own5 c=true)(h1:Pl.limB f.li.length c.lim=true)(h2:(Pl.limB f.st.length c.fr&&Pl.limB f.st.length c.till)=true)(h3:(c.fr !=c.till)=true)(b:Bool)(h4:Pl.sizedB c (-100000)=b):
  Calls Tryz.prog 219 #[.agg (fkq A1 A2 A3 A4 c1 c2 c3 c4 f k c)] w fun e w'=>e=.returned (.bool b)∧Below w.heap.size w w':=by
 have hEq: ∀W,(Op.equalIn 10000 48 (.agg (kkq k c)) (.agg (ka k c.lim 0 c.fr c.till c.size c.er))).run Tryz.prog W=.ok true W:=fun W=>(eq_own5 k c W).trans (by rw[h0])
 have H1:=Lib.hid h1
 have H2:=Lib.hid h2
 have H4:=Lib.hid h4
 clear h0 h1 h2 h4
 obtain⟨W1,hst,kb,ko,hall⟩:=own_new w (fkq A1 A2 A3 A4 c1 c2 c3 c4 f k c) 128 48 48 z13 (ka k c.lim 0 c.fr c.till c.size c.er) info_cal rfl (by simp[Value.oneCell'])
 obtain⟨hckb,hfkb⟩:=blk_cells kb
 obtain⟨hcko,hfko⟩:=blk_cells ko
 have hltkb:=(lO kb)
 have hltko:=(lO ko)
 have hla:=CBox.call (CBox.mk (f:=f) (c:=c) (k:=k) kb)
 have hlb:=ld_row ko Tryz.underlying48 rfl info_cal
 have hlc:=CBox.whole (CBox.mk (f:=f) (c:=c) (k:=k) kb)
 go_enter Tryz.func219,Tryz.ntmps219
 go_wp2_with (first
  |(go_at_call 270;refine(limits1 A1 A2 A3 A4 c1 c2 c3 c4 f k c _ c.lim true _ (heap_at (by simp)) (by omega) H1).mono ?_;rintro e w1 ⟨rfl,hx⟩;obtain⟨kb,hckb,hfkb,hltkb⟩:=kB hx kb;obtain⟨ko,hcko,hfko,hltko⟩:=kB hx ko;have hall:Below w.heap.size w w1:=Below.trans (by go_grown) (hx.mono (by go_size));have hsz:w.heap.size<=w1.heap.size:=hall.size;have hl1:=CBox.whole (CBox.mk (f:=f) (c:=c) (k:=k) kb);clear hx)
  |(go_at_call 271;refine(stations2 A1 A2 A3 A4 c1 c2 c3 c4 f k c _ c.fr c.till true _ (heap_at (by simp)) (by omega) H2).mono ?_;rintro e w2 ⟨rfl,hx⟩;obtain⟨kb,hckb,hfkb,hltkb⟩:=kB hx kb;obtain⟨ko,hcko,hfko,hltko⟩:=kB hx ko;have hall:Below w.heap.size w w2:=Below.trans (by go_grown) (hx.mono (by go_size));have hsz:w.heap.size<=w2.heap.size:=hall.size;have hl2:=CBox.whole (CBox.mk (f:=f) (c:=c) (k:=k) kb);clear hx)
  |(go_at_call 272;refine(sized_a A1 A2 A3 A4 c1 c2 c3 c4 f k c (-100000) b _ H4).mono ?_;rintro e w4 ⟨rfl,hx⟩;obtain⟨kb,hckb,hfkb,hltkb⟩:=kB hx kb;obtain⟨ko,hcko,hfko,hltko⟩:=kB hx ko;have hall:Below w.heap.size w w4:=Below.trans (by go_grown) (hx.mono (by go_size));have hsz:w.heap.size<=w4.heap.size:=hall.size;have hl4:=CBox.whole (CBox.mk (f:=f) (c:=c) (k:=k) kb);clear hx))
 go_ret
 exact⟨rfl,by go_grown⟩
theorem level_a (k:Int)(c:Pl.Cal)(w:World)(hS:f.st.length<=100000)(hL:f.li.length<=100000):
  Calls Tryz.prog 219 #[.agg (fkq A1 A2 A3 A4 c1 c2 c3 c4 f k c)] w fun e w'=>e=.returned (.bool (Pl.levelB f.st.length f.li.length c))∧Below w.heap.size w w':=by
 unfold Pl.levelB
 cases h0:Pl.own5 c with
 |false=>simpa using level_0 A1 A2 A3 A4 c1 c2 c3 c4 f k c w hS hL h0
 |true=>
 cases h1:Pl.limB f.li.length c.lim with
 |false=>simpa using level_1 A1 A2 A3 A4 c1 c2 c3 c4 f k c w hS hL h0 h1
 |true=>
 cases h2:(Pl.limB f.st.length c.fr&&Pl.limB f.st.length c.till)with
 |false=>simpa using level_2 A1 A2 A3 A4 c1 c2 c3 c4 f k c w hS hL h0 h1 h2
 |true=>
 cases h3:(c.fr !=c.till)with
 |false=>simpa using level_3 A1 A2 A3 A4 c1 c2 c3 c4 f k c w hS hL h0 h1 h2 h3
 |true=>
 simpa using level_4 A1 A2 A3 A4 c1 c2 c3 c4 f k c w hS hL h0 h1 h2 h3 _ rfl
end Go.Proofs.YtgbpekeoegfjpaaGreatDoor
