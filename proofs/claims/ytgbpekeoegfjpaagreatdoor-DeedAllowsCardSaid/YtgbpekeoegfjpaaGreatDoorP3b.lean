/- Walks of the law DeedCalls in one text, part 2: QA to QE. -/
import Derived.Test.YtgbpekeoegfjpaaGreatDoorP3a
set_option maxRecDepth 100000
namespace Go.Proofs.YtgbpekeoegfjpaaGreatDoor
open Go.RowKit
variable (A1 A2 A3 A4 : Option Addr) (c1 c2 c3 c4 : Nat) (f : Pl.Fld)
attribute [-go_sem] run_equalIn_agg storeVar loadVar
attribute [local go_sem] lv_int lv_bool lv_u8 lv_string lv_strings lv_stas lv_pars lv_vars
set_option maxHeartbeats 4000000 in
theorem tb1_2 (c:Pl.Cal)(w:World)(hS:f.st.length<=100000)(hL:f.li.length<=100000)(h0:Pl.cornB f.st.length f.li.length c.lim c.fr=true)(h1:Pl.inB c.er 0 100000=true)(h2:c.crs.isZ=false):
  Calls Tryz.prog 185 #[.agg (fq A1 A2 A3 A4 c1 c2 c3 c4 f),.agg (kkq 1 c)] w fun e w'=>e=.returned (.bool false)∧Below w.heap.size w w':=by
 have hEq: ∀W,(Op.equalIn 10000 46 (.agg (cq c.crs)) (.agg z6)).run Tryz.prog W=.ok false W:=fun W=>(eq_crsZ c W).trans (by rw[h2])
 have ic:=fun W=>isCorner_b A1 A2 A3 A4 c1 c2 c3 c4 f c.lim c.fr W hL hS
 rw[show(Pl.inB c.lim 0 ((f.li.length:Int)-1)&&Pl.inB c.fr 0 ((f.st.length:Int)-1))=true from h0]at ic
 have wi1:=fun W=>within_b c.er 0 100000 W
 rw[h1]at wi1
 have kf:=(heap_alloc_new w (.cells (fq A1 A2 A3 A4 c1 c2 c3 c4 f) 28))
 have kc:=(heap_alloc_new (w.alloc (.cells (fq A1 A2 A3 A4 c1 c2 c3 c4 f) 28)) (.cells (kkq 1 c) 48))
 rw[World.size_alloc]at kc
 have kf:=(Below.heap_alloc _ (.cells (kkq 1 c) 48) _ (lO kf)).trans kf
 have l01:=ld_row kf Tryz.underlying28 rfl info_fld
 have l02:=ld_row kc Tryz.underlying48 rfl info_cal
 have hall:Below w.heap.size w ((w.alloc (.cells (fq A1 A2 A3 A4 c1 c2 c3 c4 f) 28)).alloc (.cells (kkq 1 c) 48)):=((Below.refl _ w).alloc (Nat.le_refl _) _).alloc (by simp) _
 have l03:=ld_crsC kc
 clear h0 h1 h2
 rcases(show(¬c.lim<c.oth)∨(c.lim<c.oth∧ ¬c.oth<(f.li.length:Int))∨(c.lim<c.oth∧c.oth<(f.li.length:Int)) by omega)with x1|⟨x1,x2⟩|⟨x1,x2⟩
 all_goals
  go_enter Tryz.func185,Tryz.ntmps185
  go_wp2_with fail
  refine(ic _).mono ?_
  rintro e w1 ⟨rfl,hx⟩
  clear l03
  replace kf:=kE hx kf;replace kc:=kE hx kc;replace hall:Below w.heap.size w _:=hall.trans (hx.mono hall.size);(try clear l01 l02);have l01:=ld_row kf Tryz.underlying28 rfl info_fld;have l02:=ld_row kc Tryz.underlying48 rfl info_cal;(try clear hcf hff hcc hfc);obtain⟨hcf,hff⟩:=blk_cells kf;obtain⟨hcc,hfc⟩:=blk_cells kc;clear hx
  have l03:=ld_crsC kc
  go_wp2_with fail
  refine(wi1 _).mono ?_
  rintro e w2 ⟨rfl,rfl⟩
  go_wp2_with fail
  go_ret
  exact⟨rfl,hall⟩
set_option maxHeartbeats 4000000 in
theorem tb1_3 (c:Pl.Cal)(w:World)(hS:f.st.length<=100000)(hL:f.li.length<=100000)(h0:Pl.cornB f.st.length f.li.length c.lim c.fr=true)(h1:Pl.inB c.er 0 100000=true)(h2:c.crs.isZ=true)(h3:(c.oth==0)=false):
  Calls Tryz.prog 185 #[.agg (fq A1 A2 A3 A4 c1 c2 c3 c4 f),.agg (kkq 1 c)] w fun e w'=>e=.returned (.bool false)∧Below w.heap.size w w':=by
 have hEq: ∀W,(Op.equalIn 10000 46 (.agg (cq c.crs)) (.agg z6)).run Tryz.prog W=.ok true W:=fun W=>(eq_crsZ c W).trans (by rw[h2])
 have ic:=fun W=>isCorner_b A1 A2 A3 A4 c1 c2 c3 c4 f c.lim c.fr W hL hS
 rw[show(Pl.inB c.lim 0 ((f.li.length:Int)-1)&&Pl.inB c.fr 0 ((f.st.length:Int)-1))=true from h0]at ic
 have wi1:=fun W=>within_b c.er 0 100000 W
 rw[h1]at wi1
 have kf:=(heap_alloc_new w (.cells (fq A1 A2 A3 A4 c1 c2 c3 c4 f) 28))
 have kc:=(heap_alloc_new (w.alloc (.cells (fq A1 A2 A3 A4 c1 c2 c3 c4 f) 28)) (.cells (kkq 1 c) 48))
 rw[World.size_alloc]at kc
 have kf:=(Below.heap_alloc _ (.cells (kkq 1 c) 48) _ (lO kf)).trans kf
 have l01:=ld_row kf Tryz.underlying28 rfl info_fld
 have l02:=ld_row kc Tryz.underlying48 rfl info_cal
 have hall:Below w.heap.size w ((w.alloc (.cells (fq A1 A2 A3 A4 c1 c2 c3 c4 f) 28)).alloc (.cells (kkq 1 c) 48)):=((Below.refl _ w).alloc (Nat.le_refl _) _).alloc (by simp) _
 have l03:=ld_crsC kc
 clear h0 h1 h2
 rcases(show(¬c.lim<c.oth)∨(c.lim<c.oth∧ ¬c.oth<(f.li.length:Int))∨(c.lim<c.oth∧c.oth<(f.li.length:Int)) by omega)with x1|⟨x1,x2⟩|⟨x1,x2⟩
 all_goals
  go_enter Tryz.func185,Tryz.ntmps185
  go_wp2_with fail
  refine(ic _).mono ?_
  rintro e w1 ⟨rfl,hx⟩
  clear l03
  replace kf:=kE hx kf;replace kc:=kE hx kc;replace hall:Below w.heap.size w _:=hall.trans (hx.mono hall.size);(try clear l01 l02);have l01:=ld_row kf Tryz.underlying28 rfl info_fld;have l02:=ld_row kc Tryz.underlying48 rfl info_cal;(try clear hcf hff hcc hfc);obtain⟨hcf,hff⟩:=blk_cells kf;obtain⟨hcc,hfc⟩:=blk_cells kc;clear hx
  have l03:=ld_crsC kc
  go_wp2_with fail
  refine(wi1 _).mono ?_
  rintro e w2 ⟨rfl,rfl⟩
  go_wp2_with fail
  go_ret
  exact⟨rfl,hall⟩
set_option maxHeartbeats 4000000 in
theorem tb1_4 (c:Pl.Cal)(w:World)(hS:f.st.length<=100000)(hL:f.li.length<=100000)(h0:Pl.cornB f.st.length f.li.length c.lim c.fr=true)(h1:Pl.inB c.er 0 100000=true)(h2:c.crs.isZ=true)(h3:(c.oth==0)=true)(h4:(c.till==0)=false):
  Calls Tryz.prog 185 #[.agg (fq A1 A2 A3 A4 c1 c2 c3 c4 f),.agg (kkq 1 c)] w fun e w'=>e=.returned (.bool false)∧Below w.heap.size w w':=by
 have hEq: ∀W,(Op.equalIn 10000 46 (.agg (cq c.crs)) (.agg z6)).run Tryz.prog W=.ok true W:=fun W=>(eq_crsZ c W).trans (by rw[h2])
 have ic:=fun W=>isCorner_b A1 A2 A3 A4 c1 c2 c3 c4 f c.lim c.fr W hL hS
 rw[show(Pl.inB c.lim 0 ((f.li.length:Int)-1)&&Pl.inB c.fr 0 ((f.st.length:Int)-1))=true from h0]at ic
 have wi1:=fun W=>within_b c.er 0 100000 W
 rw[h1]at wi1
 have kf:=(heap_alloc_new w (.cells (fq A1 A2 A3 A4 c1 c2 c3 c4 f) 28))
 have kc:=(heap_alloc_new (w.alloc (.cells (fq A1 A2 A3 A4 c1 c2 c3 c4 f) 28)) (.cells (kkq 1 c) 48))
 rw[World.size_alloc]at kc
 have kf:=(Below.heap_alloc _ (.cells (kkq 1 c) 48) _ (lO kf)).trans kf
 have l01:=ld_row kf Tryz.underlying28 rfl info_fld
 have l02:=ld_row kc Tryz.underlying48 rfl info_cal
 have hall:Below w.heap.size w ((w.alloc (.cells (fq A1 A2 A3 A4 c1 c2 c3 c4 f) 28)).alloc (.cells (kkq 1 c) 48)):=((Below.refl _ w).alloc (Nat.le_refl _) _).alloc (by simp) _
 have l03:=ld_crsC kc
 clear h0 h1 h2
 rcases(show(¬c.lim<c.oth)∨(c.lim<c.oth∧ ¬c.oth<(f.li.length:Int))∨(c.lim<c.oth∧c.oth<(f.li.length:Int)) by omega)with x1|⟨x1,x2⟩|⟨x1,x2⟩
 all_goals
  go_enter Tryz.func185,Tryz.ntmps185
  go_wp2_with fail
  refine(ic _).mono ?_
  rintro e w1 ⟨rfl,hx⟩
  clear l03
  replace kf:=kE hx kf;replace kc:=kE hx kc;replace hall:Below w.heap.size w _:=hall.trans (hx.mono hall.size);(try clear l01 l02);have l01:=ld_row kf Tryz.underlying28 rfl info_fld;have l02:=ld_row kc Tryz.underlying48 rfl info_cal;(try clear hcf hff hcc hfc);obtain⟨hcf,hff⟩:=blk_cells kf;obtain⟨hcc,hfc⟩:=blk_cells kc;clear hx
  have l03:=ld_crsC kc
  go_wp2_with fail
  refine(wi1 _).mono ?_
  rintro e w2 ⟨rfl,rfl⟩
  go_wp2_with fail
  go_ret
  exact⟨rfl,hall⟩
set_option maxHeartbeats 4000000 in
theorem tb1_5 (c:Pl.Cal)(w:World)(hS:f.st.length<=100000)(hL:f.li.length<=100000)(h0:Pl.cornB f.st.length f.li.length c.lim c.fr=true)(h1:Pl.inB c.er 0 100000=true)(h2:c.crs.isZ=true)(h3:(c.oth==0)=true)(h4:(c.till==0)=true)(h5:Pl.inB c.size 0 100000=false):
  Calls Tryz.prog 185 #[.agg (fq A1 A2 A3 A4 c1 c2 c3 c4 f),.agg (kkq 1 c)] w fun e w'=>e=.returned (.bool false)∧Below w.heap.size w w':=by
 have hEq: ∀W,(Op.equalIn 10000 46 (.agg (cq c.crs)) (.agg z6)).run Tryz.prog W=.ok true W:=fun W=>(eq_crsZ c W).trans (by rw[h2])
 have ic:=fun W=>isCorner_b A1 A2 A3 A4 c1 c2 c3 c4 f c.lim c.fr W hL hS
 rw[show(Pl.inB c.lim 0 ((f.li.length:Int)-1)&&Pl.inB c.fr 0 ((f.st.length:Int)-1))=true from h0]at ic
 have wi1:=fun W=>within_b c.er 0 100000 W
 rw[h1]at wi1
 have wi5:=fun W=>within_b c.size 0 100000 W
 rw[h5]at wi5
 have kf:=(heap_alloc_new w (.cells (fq A1 A2 A3 A4 c1 c2 c3 c4 f) 28))
 have kc:=(heap_alloc_new (w.alloc (.cells (fq A1 A2 A3 A4 c1 c2 c3 c4 f) 28)) (.cells (kkq 1 c) 48))
 rw[World.size_alloc]at kc
 have kf:=(Below.heap_alloc _ (.cells (kkq 1 c) 48) _ (lO kf)).trans kf
 have l01:=ld_row kf Tryz.underlying28 rfl info_fld
 have l02:=ld_row kc Tryz.underlying48 rfl info_cal
 have hall:Below w.heap.size w ((w.alloc (.cells (fq A1 A2 A3 A4 c1 c2 c3 c4 f) 28)).alloc (.cells (kkq 1 c) 48)):=((Below.refl _ w).alloc (Nat.le_refl _) _).alloc (by simp) _
 have l03:=ld_crsC kc
 clear h0 h1 h2 h5
 rcases(show(¬c.lim<c.oth)∨(c.lim<c.oth∧ ¬c.oth<(f.li.length:Int))∨(c.lim<c.oth∧c.oth<(f.li.length:Int)) by omega)with x1|⟨x1,x2⟩|⟨x1,x2⟩
 all_goals
  go_enter Tryz.func185,Tryz.ntmps185
  go_wp2_with fail
  refine(ic _).mono ?_
  rintro e w1 ⟨rfl,hx⟩
  clear l03
  replace kf:=kE hx kf;replace kc:=kE hx kc;replace hall:Below w.heap.size w _:=hall.trans (hx.mono hall.size);(try clear l01 l02);have l01:=ld_row kf Tryz.underlying28 rfl info_fld;have l02:=ld_row kc Tryz.underlying48 rfl info_cal;(try clear hcf hff hcc hfc);obtain⟨hcf,hff⟩:=blk_cells kf;obtain⟨hcc,hfc⟩:=blk_cells kc;clear hx
  have l03:=ld_crsC kc
  go_wp2_with fail
  refine(wi1 _).mono ?_
  rintro e w2 ⟨rfl,rfl⟩
  go_wp2_with fail
  refine(wi5 _).mono ?_
  rintro e w6 ⟨rfl,rfl⟩
  go_wp2_with fail
  go_ret
  exact⟨rfl,hall⟩
set_option maxHeartbeats 4000000 in
theorem tb1_6 (c:Pl.Cal)(w:World)(hS:f.st.length<=100000)(hL:f.li.length<=100000)(h0:Pl.cornB f.st.length f.li.length c.lim c.fr=true)(h1:Pl.inB c.er 0 100000=true)(h2:c.crs.isZ=true)(h3:(c.oth==0)=true)(h4:(c.till==0)=true)(h5:Pl.inB c.size 0 100000=true):
  Calls Tryz.prog 185 #[.agg (fq A1 A2 A3 A4 c1 c2 c3 c4 f),.agg (kkq 1 c)] w fun e w'=>e=.returned (.bool true)∧Below w.heap.size w w':=by
 have hEq: ∀W,(Op.equalIn 10000 46 (.agg (cq c.crs)) (.agg z6)).run Tryz.prog W=.ok true W:=fun W=>(eq_crsZ c W).trans (by rw[h2])
 have ic:=fun W=>isCorner_b A1 A2 A3 A4 c1 c2 c3 c4 f c.lim c.fr W hL hS
 rw[show(Pl.inB c.lim 0 ((f.li.length:Int)-1)&&Pl.inB c.fr 0 ((f.st.length:Int)-1))=true from h0]at ic
 have wi1:=fun W=>within_b c.er 0 100000 W
 rw[h1]at wi1
 have wi5:=fun W=>within_b c.size 0 100000 W
 rw[h5]at wi5
 have kf:=(heap_alloc_new w (.cells (fq A1 A2 A3 A4 c1 c2 c3 c4 f) 28))
 have kc:=(heap_alloc_new (w.alloc (.cells (fq A1 A2 A3 A4 c1 c2 c3 c4 f) 28)) (.cells (kkq 1 c) 48))
 rw[World.size_alloc]at kc
 have kf:=(Below.heap_alloc _ (.cells (kkq 1 c) 48) _ (lO kf)).trans kf
 have l01:=ld_row kf Tryz.underlying28 rfl info_fld
 have l02:=ld_row kc Tryz.underlying48 rfl info_cal
 have hall:Below w.heap.size w ((w.alloc (.cells (fq A1 A2 A3 A4 c1 c2 c3 c4 f) 28)).alloc (.cells (kkq 1 c) 48)):=((Below.refl _ w).alloc (Nat.le_refl _) _).alloc (by simp) _
 have l03:=ld_crsC kc
 clear h0 h1 h2 h5
 rcases(show(¬c.lim<c.oth)∨(c.lim<c.oth∧ ¬c.oth<(f.li.length:Int))∨(c.lim<c.oth∧c.oth<(f.li.length:Int)) by omega)with x1|⟨x1,x2⟩|⟨x1,x2⟩
 all_goals
  go_enter Tryz.func185,Tryz.ntmps185
  go_wp2_with fail
  refine(ic _).mono ?_
  rintro e w1 ⟨rfl,hx⟩
  clear l03
  replace kf:=kE hx kf;replace kc:=kE hx kc;replace hall:Below w.heap.size w _:=hall.trans (hx.mono hall.size);(try clear l01 l02);have l01:=ld_row kf Tryz.underlying28 rfl info_fld;have l02:=ld_row kc Tryz.underlying48 rfl info_cal;(try clear hcf hff hcc hfc);obtain⟨hcf,hff⟩:=blk_cells kf;obtain⟨hcc,hfc⟩:=blk_cells kc;clear hx
  have l03:=ld_crsC kc
  go_wp2_with fail
  refine(wi1 _).mono ?_
  rintro e w2 ⟨rfl,rfl⟩
  go_wp2_with fail
  refine(wi5 _).mono ?_
  rintro e w6 ⟨rfl,rfl⟩
  go_wp2_with fail
  go_ret
  exact⟨rfl,hall⟩
set_option maxHeartbeats 4000000 in
theorem tb3_2 (c:Pl.Cal)(w:World)(hS:f.st.length<=100000)(hL:f.li.length<=100000)(h0:Pl.cornB f.st.length f.li.length c.lim c.fr=true)(h1:Pl.inB c.er 0 100000=true)(h2:(c.oth==0)=false):
  Calls Tryz.prog 185 #[.agg (fq A1 A2 A3 A4 c1 c2 c3 c4 f),.agg (kkq 3 c)] w fun e w'=>e=.returned (.bool false)∧Below w.heap.size w w':=by
 have hEq: ∀W,(Op.equalIn 10000 46 (.agg (cq c.crs)) (.agg z6)).run Tryz.prog W=.ok c.crs.isZ W:=fun W=>(eq_crsZ c W)
 have ic:=fun W=>isCorner_b A1 A2 A3 A4 c1 c2 c3 c4 f c.lim c.fr W hL hS
 rw[show(Pl.inB c.lim 0 ((f.li.length:Int)-1)&&Pl.inB c.fr 0 ((f.st.length:Int)-1))=true from h0]at ic
 have wi1:=fun W=>within_b c.er 0 100000 W
 rw[h1]at wi1
 have kf:=(heap_alloc_new w (.cells (fq A1 A2 A3 A4 c1 c2 c3 c4 f) 28))
 have kc:=(heap_alloc_new (w.alloc (.cells (fq A1 A2 A3 A4 c1 c2 c3 c4 f) 28)) (.cells (kkq 3 c) 48))
 rw[World.size_alloc]at kc
 have kf:=(Below.heap_alloc _ (.cells (kkq 3 c) 48) _ (lO kf)).trans kf
 have l01:=ld_row kf Tryz.underlying28 rfl info_fld
 have l02:=ld_row kc Tryz.underlying48 rfl info_cal
 have hall:Below w.heap.size w ((w.alloc (.cells (fq A1 A2 A3 A4 c1 c2 c3 c4 f) 28)).alloc (.cells (kkq 3 c) 48)):=((Below.refl _ w).alloc (Nat.le_refl _) _).alloc (by simp) _
 have l03:=ld_crsC kc
 clear h0 h1
 rcases(show(¬c.lim<c.oth)∨(c.lim<c.oth∧ ¬c.oth<(f.li.length:Int))∨(c.lim<c.oth∧c.oth<(f.li.length:Int)) by omega)with x1|⟨x1,x2⟩|⟨x1,x2⟩
 all_goals
  go_enter Tryz.func185,Tryz.ntmps185
  go_wp2_with fail
  refine(ic _).mono ?_
  rintro e w1 ⟨rfl,hx⟩
  clear l03
  replace kf:=kE hx kf;replace kc:=kE hx kc;replace hall:Below w.heap.size w _:=hall.trans (hx.mono hall.size);(try clear l01 l02);have l01:=ld_row kf Tryz.underlying28 rfl info_fld;have l02:=ld_row kc Tryz.underlying48 rfl info_cal;(try clear hcf hff hcc hfc);obtain⟨hcf,hff⟩:=blk_cells kf;obtain⟨hcc,hfc⟩:=blk_cells kc;clear hx
  have l03:=ld_crsC kc
  go_wp2_with fail
  refine(wi1 _).mono ?_
  rintro e w2 ⟨rfl,rfl⟩
  go_wp2_with fail
  go_ret
  exact⟨rfl,hall⟩
set_option maxHeartbeats 4000000 in
theorem tb3_3 (c:Pl.Cal)(w:World)(hS:f.st.length<=100000)(hL:f.li.length<=100000)(h0:Pl.cornB f.st.length f.li.length c.lim c.fr=true)(h1:Pl.inB c.er 0 100000=true)(h2:(c.oth==0)=true)(h3:(c.size==0)=false):
  Calls Tryz.prog 185 #[.agg (fq A1 A2 A3 A4 c1 c2 c3 c4 f),.agg (kkq 3 c)] w fun e w'=>e=.returned (.bool false)∧Below w.heap.size w w':=by
 have hEq: ∀W,(Op.equalIn 10000 46 (.agg (cq c.crs)) (.agg z6)).run Tryz.prog W=.ok c.crs.isZ W:=fun W=>(eq_crsZ c W)
 have ic:=fun W=>isCorner_b A1 A2 A3 A4 c1 c2 c3 c4 f c.lim c.fr W hL hS
 rw[show(Pl.inB c.lim 0 ((f.li.length:Int)-1)&&Pl.inB c.fr 0 ((f.st.length:Int)-1))=true from h0]at ic
 have wi1:=fun W=>within_b c.er 0 100000 W
 rw[h1]at wi1
 have kf:=(heap_alloc_new w (.cells (fq A1 A2 A3 A4 c1 c2 c3 c4 f) 28))
 have kc:=(heap_alloc_new (w.alloc (.cells (fq A1 A2 A3 A4 c1 c2 c3 c4 f) 28)) (.cells (kkq 3 c) 48))
 rw[World.size_alloc]at kc
 have kf:=(Below.heap_alloc _ (.cells (kkq 3 c) 48) _ (lO kf)).trans kf
 have l01:=ld_row kf Tryz.underlying28 rfl info_fld
 have l02:=ld_row kc Tryz.underlying48 rfl info_cal
 have hall:Below w.heap.size w ((w.alloc (.cells (fq A1 A2 A3 A4 c1 c2 c3 c4 f) 28)).alloc (.cells (kkq 3 c) 48)):=((Below.refl _ w).alloc (Nat.le_refl _) _).alloc (by simp) _
 have l03:=ld_crsC kc
 clear h0 h1
 rcases(show(¬c.lim<c.oth)∨(c.lim<c.oth∧ ¬c.oth<(f.li.length:Int))∨(c.lim<c.oth∧c.oth<(f.li.length:Int)) by omega)with x1|⟨x1,x2⟩|⟨x1,x2⟩
 all_goals
  go_enter Tryz.func185,Tryz.ntmps185
  go_wp2_with fail
  refine(ic _).mono ?_
  rintro e w1 ⟨rfl,hx⟩
  clear l03
  replace kf:=kE hx kf;replace kc:=kE hx kc;replace hall:Below w.heap.size w _:=hall.trans (hx.mono hall.size);(try clear l01 l02);have l01:=ld_row kf Tryz.underlying28 rfl info_fld;have l02:=ld_row kc Tryz.underlying48 rfl info_cal;(try clear hcf hff hcc hfc);obtain⟨hcf,hff⟩:=blk_cells kf;obtain⟨hcc,hfc⟩:=blk_cells kc;clear hx
  have l03:=ld_crsC kc
  go_wp2_with fail
  refine(wi1 _).mono ?_
  rintro e w2 ⟨rfl,rfl⟩
  go_wp2_with fail
  go_ret
  exact⟨rfl,hall⟩
set_option maxHeartbeats 4000000 in
theorem tb3_4 (c:Pl.Cal)(w:World)(hS:f.st.length<=100000)(hL:f.li.length<=100000)(h0:Pl.cornB f.st.length f.li.length c.lim c.fr=true)(h1:Pl.inB c.er 0 100000=true)(h2:(c.oth==0)=true)(h3:(c.size==0)=true)(h4:(c.er==0)=false):
  Calls Tryz.prog 185 #[.agg (fq A1 A2 A3 A4 c1 c2 c3 c4 f),.agg (kkq 3 c)] w fun e w'=>e=.returned (.bool false)∧Below w.heap.size w w':=by
 have hEq: ∀W,(Op.equalIn 10000 46 (.agg (cq c.crs)) (.agg z6)).run Tryz.prog W=.ok c.crs.isZ W:=fun W=>(eq_crsZ c W)
 have ic:=fun W=>isCorner_b A1 A2 A3 A4 c1 c2 c3 c4 f c.lim c.fr W hL hS
 rw[show(Pl.inB c.lim 0 ((f.li.length:Int)-1)&&Pl.inB c.fr 0 ((f.st.length:Int)-1))=true from h0]at ic
 have wi1:=fun W=>within_b c.er 0 100000 W
 rw[h1]at wi1
 have kf:=(heap_alloc_new w (.cells (fq A1 A2 A3 A4 c1 c2 c3 c4 f) 28))
 have kc:=(heap_alloc_new (w.alloc (.cells (fq A1 A2 A3 A4 c1 c2 c3 c4 f) 28)) (.cells (kkq 3 c) 48))
 rw[World.size_alloc]at kc
 have kf:=(Below.heap_alloc _ (.cells (kkq 3 c) 48) _ (lO kf)).trans kf
 have l01:=ld_row kf Tryz.underlying28 rfl info_fld
 have l02:=ld_row kc Tryz.underlying48 rfl info_cal
 have hall:Below w.heap.size w ((w.alloc (.cells (fq A1 A2 A3 A4 c1 c2 c3 c4 f) 28)).alloc (.cells (kkq 3 c) 48)):=((Below.refl _ w).alloc (Nat.le_refl _) _).alloc (by simp) _
 have l03:=ld_crsC kc
 clear h0 h1
 rcases(show(¬c.lim<c.oth)∨(c.lim<c.oth∧ ¬c.oth<(f.li.length:Int))∨(c.lim<c.oth∧c.oth<(f.li.length:Int)) by omega)with x1|⟨x1,x2⟩|⟨x1,x2⟩
 all_goals
  go_enter Tryz.func185,Tryz.ntmps185
  go_wp2_with fail
  refine(ic _).mono ?_
  rintro e w1 ⟨rfl,hx⟩
  clear l03
  replace kf:=kE hx kf;replace kc:=kE hx kc;replace hall:Below w.heap.size w _:=hall.trans (hx.mono hall.size);(try clear l01 l02);have l01:=ld_row kf Tryz.underlying28 rfl info_fld;have l02:=ld_row kc Tryz.underlying48 rfl info_cal;(try clear hcf hff hcc hfc);obtain⟨hcf,hff⟩:=blk_cells kf;obtain⟨hcc,hfc⟩:=blk_cells kc;clear hx
  have l03:=ld_crsC kc
  go_wp2_with fail
  refine(wi1 _).mono ?_
  rintro e w2 ⟨rfl,rfl⟩
  go_wp2_with fail
  go_ret
  exact⟨rfl,hall⟩
set_option maxHeartbeats 4000000 in
theorem tb3_5 (c:Pl.Cal)(w:World)(hS:f.st.length<=100000)(hL:f.li.length<=100000)(h0:Pl.cornB f.st.length f.li.length c.lim c.fr=true)(h1:Pl.inB c.er 0 100000=true)(h2:(c.oth==0)=true)(h3:(c.size==0)=true)(h4:(c.er==0)=true)(h5:Pl.inB c.till 0 ((f.st.length:Int)-1)=false):
  Calls Tryz.prog 185 #[.agg (fq A1 A2 A3 A4 c1 c2 c3 c4 f),.agg (kkq 3 c)] w fun e w'=>e=.returned (.bool false)∧Below w.heap.size w w':=by
 have hEq: ∀W,(Op.equalIn 10000 46 (.agg (cq c.crs)) (.agg z6)).run Tryz.prog W=.ok c.crs.isZ W:=fun W=>(eq_crsZ c W)
 have ic:=fun W=>isCorner_b A1 A2 A3 A4 c1 c2 c3 c4 f c.lim c.fr W hL hS
 rw[show(Pl.inB c.lim 0 ((f.li.length:Int)-1)&&Pl.inB c.fr 0 ((f.st.length:Int)-1))=true from h0]at ic
 have wi1:=fun W=>within_b c.er 0 100000 W
 rw[h1]at wi1
 have wi5:=fun W=>within_b c.till 0 ((f.st.length:Int)-1) W
 rw[h5]at wi5
 have kf:=(heap_alloc_new w (.cells (fq A1 A2 A3 A4 c1 c2 c3 c4 f) 28))
 have kc:=(heap_alloc_new (w.alloc (.cells (fq A1 A2 A3 A4 c1 c2 c3 c4 f) 28)) (.cells (kkq 3 c) 48))
 rw[World.size_alloc]at kc
 have kf:=(Below.heap_alloc _ (.cells (kkq 3 c) 48) _ (lO kf)).trans kf
 have l01:=ld_row kf Tryz.underlying28 rfl info_fld
 have l02:=ld_row kc Tryz.underlying48 rfl info_cal
 have hall:Below w.heap.size w ((w.alloc (.cells (fq A1 A2 A3 A4 c1 c2 c3 c4 f) 28)).alloc (.cells (kkq 3 c) 48)):=((Below.refl _ w).alloc (Nat.le_refl _) _).alloc (by simp) _
 have l03:=ld_crsC kc
 clear h0 h1 h5
 rcases(show(¬c.lim<c.oth)∨(c.lim<c.oth∧ ¬c.oth<(f.li.length:Int))∨(c.lim<c.oth∧c.oth<(f.li.length:Int)) by omega)with x1|⟨x1,x2⟩|⟨x1,x2⟩
 all_goals
  go_enter Tryz.func185,Tryz.ntmps185
  go_wp2_with fail
  refine(ic _).mono ?_
  rintro e w1 ⟨rfl,hx⟩
  clear l03
  replace kf:=kE hx kf;replace kc:=kE hx kc;replace hall:Below w.heap.size w _:=hall.trans (hx.mono hall.size);(try clear l01 l02);have l01:=ld_row kf Tryz.underlying28 rfl info_fld;have l02:=ld_row kc Tryz.underlying48 rfl info_cal;(try clear hcf hff hcc hfc);obtain⟨hcf,hff⟩:=blk_cells kf;obtain⟨hcc,hfc⟩:=blk_cells kc;clear hx
  have l03:=ld_crsC kc
  go_wp2_with fail
  refine(wi1 _).mono ?_
  rintro e w2 ⟨rfl,rfl⟩
  go_wp2_with fail
  refine(wi5 _).mono ?_
  rintro e w6 ⟨rfl,rfl⟩
  go_wp2_with fail
  go_ret
  exact⟨rfl,hall⟩
set_option maxHeartbeats 4000000 in
theorem tb3_6 (c:Pl.Cal)(w:World)(hS:f.st.length<=100000)(hL:f.li.length<=100000)(h0:Pl.cornB f.st.length f.li.length c.lim c.fr=true)(h1:Pl.inB c.er 0 100000=true)(h2:(c.oth==0)=true)(h3:(c.size==0)=true)(h4:(c.er==0)=true)(h5:Pl.inB c.till 0 ((f.st.length:Int)-1)=true)(h6:(c.till !=c.fr)=false):
  Calls Tryz.prog 185 #[.agg (fq A1 A2 A3 A4 c1 c2 c3 c4 f),.agg (kkq 3 c)] w fun e w'=>e=.returned (.bool false)∧Below w.heap.size w w':=by
 have hEq: ∀W,(Op.equalIn 10000 46 (.agg (cq c.crs)) (.agg z6)).run Tryz.prog W=.ok c.crs.isZ W:=fun W=>(eq_crsZ c W)
 have ic:=fun W=>isCorner_b A1 A2 A3 A4 c1 c2 c3 c4 f c.lim c.fr W hL hS
 rw[show(Pl.inB c.lim 0 ((f.li.length:Int)-1)&&Pl.inB c.fr 0 ((f.st.length:Int)-1))=true from h0]at ic
 have wi1:=fun W=>within_b c.er 0 100000 W
 rw[h1]at wi1
 have wi5:=fun W=>within_b c.till 0 ((f.st.length:Int)-1) W
 rw[h5]at wi5
 have kf:=(heap_alloc_new w (.cells (fq A1 A2 A3 A4 c1 c2 c3 c4 f) 28))
 have kc:=(heap_alloc_new (w.alloc (.cells (fq A1 A2 A3 A4 c1 c2 c3 c4 f) 28)) (.cells (kkq 3 c) 48))
 rw[World.size_alloc]at kc
 have kf:=(Below.heap_alloc _ (.cells (kkq 3 c) 48) _ (lO kf)).trans kf
 have l01:=ld_row kf Tryz.underlying28 rfl info_fld
 have l02:=ld_row kc Tryz.underlying48 rfl info_cal
 have hall:Below w.heap.size w ((w.alloc (.cells (fq A1 A2 A3 A4 c1 c2 c3 c4 f) 28)).alloc (.cells (kkq 3 c) 48)):=((Below.refl _ w).alloc (Nat.le_refl _) _).alloc (by simp) _
 have l03:=ld_crsC kc
 clear h0 h1 h5
 rcases(show(¬c.lim<c.oth)∨(c.lim<c.oth∧ ¬c.oth<(f.li.length:Int))∨(c.lim<c.oth∧c.oth<(f.li.length:Int)) by omega)with x1|⟨x1,x2⟩|⟨x1,x2⟩
 all_goals
  go_enter Tryz.func185,Tryz.ntmps185
  go_wp2_with fail
  refine(ic _).mono ?_
  rintro e w1 ⟨rfl,hx⟩
  clear l03
  replace kf:=kE hx kf;replace kc:=kE hx kc;replace hall:Below w.heap.size w _:=hall.trans (hx.mono hall.size);(try clear l01 l02);have l01:=ld_row kf Tryz.underlying28 rfl info_fld;have l02:=ld_row kc Tryz.underlying48 rfl info_cal;(try clear hcf hff hcc hfc);obtain⟨hcf,hff⟩:=blk_cells kf;obtain⟨hcc,hfc⟩:=blk_cells kc;clear hx
  have l03:=ld_crsC kc
  go_wp2_with fail
  refine(wi1 _).mono ?_
  rintro e w2 ⟨rfl,rfl⟩
  go_wp2_with fail
  refine(wi5 _).mono ?_
  rintro e w6 ⟨rfl,rfl⟩
  go_wp2_with fail
  go_ret
  exact⟨rfl,hall⟩
set_option maxHeartbeats 4000000 in
theorem tb3_7 (c:Pl.Cal)(w:World)(hS:f.st.length<=100000)(hL:f.li.length<=100000)(h0:Pl.cornB f.st.length f.li.length c.lim c.fr=true)(h1:Pl.inB c.er 0 100000=true)(h2:(c.oth==0)=true)(h3:(c.size==0)=true)(h4:(c.er==0)=true)(h5:Pl.inB c.till 0 ((f.st.length:Int)-1)=true)(h6:(c.till !=c.fr)=true):
  Calls Tryz.prog 185 #[.agg (fq A1 A2 A3 A4 c1 c2 c3 c4 f),.agg (kkq 3 c)] w fun e w'=>e=.returned (.bool true)∧Below w.heap.size w w':=by
 have hEq: ∀W,(Op.equalIn 10000 46 (.agg (cq c.crs)) (.agg z6)).run Tryz.prog W=.ok c.crs.isZ W:=fun W=>(eq_crsZ c W)
 have ic:=fun W=>isCorner_b A1 A2 A3 A4 c1 c2 c3 c4 f c.lim c.fr W hL hS
 rw[show(Pl.inB c.lim 0 ((f.li.length:Int)-1)&&Pl.inB c.fr 0 ((f.st.length:Int)-1))=true from h0]at ic
 have wi1:=fun W=>within_b c.er 0 100000 W
 rw[h1]at wi1
 have wi5:=fun W=>within_b c.till 0 ((f.st.length:Int)-1) W
 rw[h5]at wi5
 have kf:=(heap_alloc_new w (.cells (fq A1 A2 A3 A4 c1 c2 c3 c4 f) 28))
 have kc:=(heap_alloc_new (w.alloc (.cells (fq A1 A2 A3 A4 c1 c2 c3 c4 f) 28)) (.cells (kkq 3 c) 48))
 rw[World.size_alloc]at kc
 have kf:=(Below.heap_alloc _ (.cells (kkq 3 c) 48) _ (lO kf)).trans kf
 have l01:=ld_row kf Tryz.underlying28 rfl info_fld
 have l02:=ld_row kc Tryz.underlying48 rfl info_cal
 have hall:Below w.heap.size w ((w.alloc (.cells (fq A1 A2 A3 A4 c1 c2 c3 c4 f) 28)).alloc (.cells (kkq 3 c) 48)):=((Below.refl _ w).alloc (Nat.le_refl _) _).alloc (by simp) _
 have l03:=ld_crsC kc
 clear h0 h1 h5
 rcases(show(¬c.lim<c.oth)∨(c.lim<c.oth∧ ¬c.oth<(f.li.length:Int))∨(c.lim<c.oth∧c.oth<(f.li.length:Int)) by omega)with x1|⟨x1,x2⟩|⟨x1,x2⟩
 all_goals
  go_enter Tryz.func185,Tryz.ntmps185
  go_wp2_with fail
  refine(ic _).mono ?_
  rintro e w1 ⟨rfl,hx⟩
  clear l03
  replace kf:=kE hx kf;replace kc:=kE hx kc;replace hall:Below w.heap.size w _:=hall.trans (hx.mono hall.size);(try clear l01 l02);have l01:=ld_row kf Tryz.underlying28 rfl info_fld;have l02:=ld_row kc Tryz.underlying48 rfl info_cal;(try clear hcf hff hcc hfc);obtain⟨hcf,hff⟩:=blk_cells kf;obtain⟨hcc,hfc⟩:=blk_cells kc;clear hx
  have l03:=ld_crsC kc
  go_wp2_with fail
  refine(wi1 _).mono ?_
  rintro e w2 ⟨rfl,rfl⟩
  go_wp2_with fail
  refine(wi5 _).mono ?_
  rintro e w6 ⟨rfl,rfl⟩
  go_wp2_with fail
  go_ret
  exact⟨rfl,hall⟩
end Go.Proofs.YtgbpekeoegfjpaaGreatDoor
namespace Go.Proofs.YtgbpekeoegfjpaaGreatDoor
open Go.RowKit
variable (A1 A2 A3 A4 : Option Addr) (c1 c2 c3 c4 : Nat) (f : Pl.Fld)
attribute [-go_sem] run_equalIn_agg storeVar loadVar
attribute [local go_sem] lv_int lv_bool lv_u8 lv_string lv_strings lv_stas lv_pars lv_vars
set_option maxHeartbeats 4000000 in
theorem tb2_2 (c:Pl.Cal)(w:World)(hS:f.st.length<=100000)(hL:f.li.length<=100000)(h0:Pl.cornB f.st.length f.li.length c.lim c.fr=true)(h1:Pl.inB c.er 0 100000=true)(h2:c.crs.isZ=false):
  Calls Tryz.prog 185 #[.agg (fq A1 A2 A3 A4 c1 c2 c3 c4 f),.agg (kkq 2 c)] w fun e w'=>e=.returned (.bool false)∧Below w.heap.size w w':=by
 have hEq: ∀W,(Op.equalIn 10000 46 (.agg (cq c.crs)) (.agg z6)).run Tryz.prog W=.ok false W:=fun W=>(eq_crsZ c W).trans (by rw[h2])
 have ic:=fun W=>isCorner_b A1 A2 A3 A4 c1 c2 c3 c4 f c.lim c.fr W hL hS
 rw[show(Pl.inB c.lim 0 ((f.li.length:Int)-1)&&Pl.inB c.fr 0 ((f.st.length:Int)-1))=true from h0]at ic
 have wi1:=fun W=>within_b c.er 0 100000 W
 rw[h1]at wi1
 have kf:=(heap_alloc_new w (.cells (fq A1 A2 A3 A4 c1 c2 c3 c4 f) 28))
 have kc:=(heap_alloc_new (w.alloc (.cells (fq A1 A2 A3 A4 c1 c2 c3 c4 f) 28)) (.cells (kkq 2 c) 48))
 rw[World.size_alloc]at kc
 have kf:=(Below.heap_alloc _ (.cells (kkq 2 c) 48) _ (lO kf)).trans kf
 have l01:=ld_row kf Tryz.underlying28 rfl info_fld
 have l02:=ld_row kc Tryz.underlying48 rfl info_cal
 have hall:Below w.heap.size w ((w.alloc (.cells (fq A1 A2 A3 A4 c1 c2 c3 c4 f) 28)).alloc (.cells (kkq 2 c) 48)):=((Below.refl _ w).alloc (Nat.le_refl _) _).alloc (by simp) _
 have l03:=ld_crsC kc
 clear h0 h1 h2
 rcases(show(¬c.lim<c.oth)∨(c.lim<c.oth∧ ¬c.oth<(f.li.length:Int))∨(c.lim<c.oth∧c.oth<(f.li.length:Int)) by omega)with x1|⟨x1,x2⟩|⟨x1,x2⟩
 all_goals
  go_enter Tryz.func185,Tryz.ntmps185
  go_wp2_with fail
  refine(ic _).mono ?_
  rintro e w1 ⟨rfl,hx⟩
  clear l03
  replace kf:=kE hx kf;replace kc:=kE hx kc;replace hall:Below w.heap.size w _:=hall.trans (hx.mono hall.size);(try clear l01 l02);have l01:=ld_row kf Tryz.underlying28 rfl info_fld;have l02:=ld_row kc Tryz.underlying48 rfl info_cal;(try clear hcf hff hcc hfc);obtain⟨hcf,hff⟩:=blk_cells kf;obtain⟨hcc,hfc⟩:=blk_cells kc;clear hx
  have l03:=ld_crsC kc
  go_wp2_with fail
  refine(wi1 _).mono ?_
  rintro e w2 ⟨rfl,rfl⟩
  go_wp2_with fail
  go_ret
  exact⟨rfl,hall⟩
set_option maxHeartbeats 4000000 in
theorem tb2_3 (c:Pl.Cal)(w:World)(hS:f.st.length<=100000)(hL:f.li.length<=100000)(h0:Pl.cornB f.st.length f.li.length c.lim c.fr=true)(h1:Pl.inB c.er 0 100000=true)(h2:c.crs.isZ=true)(h3:Pl.othB f.li.length c=false):
  Calls Tryz.prog 185 #[.agg (fq A1 A2 A3 A4 c1 c2 c3 c4 f),.agg (kkq 2 c)] w fun e w'=>e=.returned (.bool false)∧Below w.heap.size w w':=by
 have hEq: ∀W,(Op.equalIn 10000 46 (.agg (cq c.crs)) (.agg z6)).run Tryz.prog W=.ok true W:=fun W=>(eq_crsZ c W).trans (by rw[h2])
 have ic:=fun W=>isCorner_b A1 A2 A3 A4 c1 c2 c3 c4 f c.lim c.fr W hL hS
 rw[show(Pl.inB c.lim 0 ((f.li.length:Int)-1)&&Pl.inB c.fr 0 ((f.st.length:Int)-1))=true from h0]at ic
 have wi1:=fun W=>within_b c.er 0 100000 W
 rw[h1]at wi1
 have kf:=(heap_alloc_new w (.cells (fq A1 A2 A3 A4 c1 c2 c3 c4 f) 28))
 have kc:=(heap_alloc_new (w.alloc (.cells (fq A1 A2 A3 A4 c1 c2 c3 c4 f) 28)) (.cells (kkq 2 c) 48))
 rw[World.size_alloc]at kc
 have kf:=(Below.heap_alloc _ (.cells (kkq 2 c) 48) _ (lO kf)).trans kf
 have l01:=ld_row kf Tryz.underlying28 rfl info_fld
 have l02:=ld_row kc Tryz.underlying48 rfl info_cal
 have hall:Below w.heap.size w ((w.alloc (.cells (fq A1 A2 A3 A4 c1 c2 c3 c4 f) 28)).alloc (.cells (kkq 2 c) 48)):=((Below.refl _ w).alloc (Nat.le_refl _) _).alloc (by simp) _
 have l03:=ld_crsC kc
 have x0: ¬c.lim<c.oth∨(c.lim<c.oth∧ ¬c.oth<(f.li.length:Int)):=by unfold Pl.othB at h3;simp at h3;omega
 clear h0 h1 h2 h3
 rcases x0 with x1|⟨x1,x2⟩
 all_goals
  go_enter Tryz.func185,Tryz.ntmps185
  go_wp2_with fail
  refine(ic _).mono ?_
  rintro e w1 ⟨rfl,hx⟩
  clear l03
  replace kf:=kE hx kf;replace kc:=kE hx kc;replace hall:Below w.heap.size w _:=hall.trans (hx.mono hall.size);(try clear l01 l02);have l01:=ld_row kf Tryz.underlying28 rfl info_fld;have l02:=ld_row kc Tryz.underlying48 rfl info_cal;(try clear hcf hff hcc hfc);obtain⟨hcf,hff⟩:=blk_cells kf;obtain⟨hcc,hfc⟩:=blk_cells kc;clear hx
  have l03:=ld_crsC kc
  go_wp2_with fail
  refine(wi1 _).mono ?_
  rintro e w2 ⟨rfl,rfl⟩
  go_wp2_with fail
  go_ret
  exact⟨rfl,hall⟩
set_option maxHeartbeats 4000000 in
theorem tb2_4 (c:Pl.Cal)(w:World)(hS:f.st.length<=100000)(hL:f.li.length<=100000)(h0:Pl.cornB f.st.length f.li.length c.lim c.fr=true)(h1:Pl.inB c.er 0 100000=true)(h2:c.crs.isZ=true)(h3:Pl.othB f.li.length c=true)(h4:(c.till==0)=false):
  Calls Tryz.prog 185 #[.agg (fq A1 A2 A3 A4 c1 c2 c3 c4 f),.agg (kkq 2 c)] w fun e w'=>e=.returned (.bool false)∧Below w.heap.size w w':=by
 have hEq: ∀W,(Op.equalIn 10000 46 (.agg (cq c.crs)) (.agg z6)).run Tryz.prog W=.ok true W:=fun W=>(eq_crsZ c W).trans (by rw[h2])
 have ic:=fun W=>isCorner_b A1 A2 A3 A4 c1 c2 c3 c4 f c.lim c.fr W hL hS
 rw[show(Pl.inB c.lim 0 ((f.li.length:Int)-1)&&Pl.inB c.fr 0 ((f.st.length:Int)-1))=true from h0]at ic
 have wi1:=fun W=>within_b c.er 0 100000 W
 rw[h1]at wi1
 have kf:=(heap_alloc_new w (.cells (fq A1 A2 A3 A4 c1 c2 c3 c4 f) 28))
 have kc:=(heap_alloc_new (w.alloc (.cells (fq A1 A2 A3 A4 c1 c2 c3 c4 f) 28)) (.cells (kkq 2 c) 48))
 rw[World.size_alloc]at kc
 have kf:=(Below.heap_alloc _ (.cells (kkq 2 c) 48) _ (lO kf)).trans kf
 have l01:=ld_row kf Tryz.underlying28 rfl info_fld
 have l02:=ld_row kc Tryz.underlying48 rfl info_cal
 have hall:Below w.heap.size w ((w.alloc (.cells (fq A1 A2 A3 A4 c1 c2 c3 c4 f) 28)).alloc (.cells (kkq 2 c) 48)):=((Below.refl _ w).alloc (Nat.le_refl _) _).alloc (by simp) _
 have l03:=ld_crsC kc
 have x1:c.lim<c.oth:=by unfold Pl.othB at h3;simp at h3;omega
 have x2:c.oth<(f.li.length:Int):=by unfold Pl.othB at h3;simp at h3;omega
 clear h0 h1 h2 h3
 all_goals
  go_enter Tryz.func185,Tryz.ntmps185
  go_wp2_with fail
  refine(ic _).mono ?_
  rintro e w1 ⟨rfl,hx⟩
  clear l03
  replace kf:=kE hx kf;replace kc:=kE hx kc;replace hall:Below w.heap.size w _:=hall.trans (hx.mono hall.size);(try clear l01 l02);have l01:=ld_row kf Tryz.underlying28 rfl info_fld;have l02:=ld_row kc Tryz.underlying48 rfl info_cal;(try clear hcf hff hcc hfc);obtain⟨hcf,hff⟩:=blk_cells kf;obtain⟨hcc,hfc⟩:=blk_cells kc;clear hx
  have l03:=ld_crsC kc
  go_wp2_with fail
  refine(wi1 _).mono ?_
  rintro e w2 ⟨rfl,rfl⟩
  go_wp2_with fail
  go_ret
  exact⟨rfl,hall⟩
set_option maxHeartbeats 4000000 in
theorem tb2_5 (c:Pl.Cal)(w:World)(hS:f.st.length<=100000)(hL:f.li.length<=100000)(h0:Pl.cornB f.st.length f.li.length c.lim c.fr=true)(h1:Pl.inB c.er 0 100000=true)(h2:c.crs.isZ=true)(h3:Pl.othB f.li.length c=true)(h4:(c.till==0)=true)(h5:Pl.inB c.size 0 100000=false):
  Calls Tryz.prog 185 #[.agg (fq A1 A2 A3 A4 c1 c2 c3 c4 f),.agg (kkq 2 c)] w fun e w'=>e=.returned (.bool false)∧Below w.heap.size w w':=by
 have hEq: ∀W,(Op.equalIn 10000 46 (.agg (cq c.crs)) (.agg z6)).run Tryz.prog W=.ok true W:=fun W=>(eq_crsZ c W).trans (by rw[h2])
 have ic:=fun W=>isCorner_b A1 A2 A3 A4 c1 c2 c3 c4 f c.lim c.fr W hL hS
 rw[show(Pl.inB c.lim 0 ((f.li.length:Int)-1)&&Pl.inB c.fr 0 ((f.st.length:Int)-1))=true from h0]at ic
 have wi1:=fun W=>within_b c.er 0 100000 W
 rw[h1]at wi1
 have wi5:=fun W=>within_b c.size 0 100000 W
 rw[h5]at wi5
 have kf:=(heap_alloc_new w (.cells (fq A1 A2 A3 A4 c1 c2 c3 c4 f) 28))
 have kc:=(heap_alloc_new (w.alloc (.cells (fq A1 A2 A3 A4 c1 c2 c3 c4 f) 28)) (.cells (kkq 2 c) 48))
 rw[World.size_alloc]at kc
 have kf:=(Below.heap_alloc _ (.cells (kkq 2 c) 48) _ (lO kf)).trans kf
 have l01:=ld_row kf Tryz.underlying28 rfl info_fld
 have l02:=ld_row kc Tryz.underlying48 rfl info_cal
 have hall:Below w.heap.size w ((w.alloc (.cells (fq A1 A2 A3 A4 c1 c2 c3 c4 f) 28)).alloc (.cells (kkq 2 c) 48)):=((Below.refl _ w).alloc (Nat.le_refl _) _).alloc (by simp) _
 have l03:=ld_crsC kc
 have x1:c.lim<c.oth:=by unfold Pl.othB at h3;simp at h3;omega
 have x2:c.oth<(f.li.length:Int):=by unfold Pl.othB at h3;simp at h3;omega
 clear h0 h1 h2 h5 h3
 all_goals
  go_enter Tryz.func185,Tryz.ntmps185
  go_wp2_with fail
  refine(ic _).mono ?_
  rintro e w1 ⟨rfl,hx⟩
  clear l03
  replace kf:=kE hx kf;replace kc:=kE hx kc;replace hall:Below w.heap.size w _:=hall.trans (hx.mono hall.size);(try clear l01 l02);have l01:=ld_row kf Tryz.underlying28 rfl info_fld;have l02:=ld_row kc Tryz.underlying48 rfl info_cal;(try clear hcf hff hcc hfc);obtain⟨hcf,hff⟩:=blk_cells kf;obtain⟨hcc,hfc⟩:=blk_cells kc;clear hx
  have l03:=ld_crsC kc
  go_wp2_with fail
  refine(wi1 _).mono ?_
  rintro e w2 ⟨rfl,rfl⟩
  go_wp2_with fail
  refine(wi5 _).mono ?_
  rintro e w6 ⟨rfl,rfl⟩
  go_wp2_with fail
  go_ret
  exact⟨rfl,hall⟩
set_option maxHeartbeats 4000000 in
theorem tb2_6 (c:Pl.Cal)(w:World)(hS:f.st.length<=100000)(hL:f.li.length<=100000)(h0:Pl.cornB f.st.length f.li.length c.lim c.fr=true)(h1:Pl.inB c.er 0 100000=true)(h2:c.crs.isZ=true)(h3:Pl.othB f.li.length c=true)(h4:(c.till==0)=true)(h5:Pl.inB c.size 0 100000=true):
  Calls Tryz.prog 185 #[.agg (fq A1 A2 A3 A4 c1 c2 c3 c4 f),.agg (kkq 2 c)] w fun e w'=>e=.returned (.bool true)∧Below w.heap.size w w':=by
 have hEq: ∀W,(Op.equalIn 10000 46 (.agg (cq c.crs)) (.agg z6)).run Tryz.prog W=.ok true W:=fun W=>(eq_crsZ c W).trans (by rw[h2])
 have ic:=fun W=>isCorner_b A1 A2 A3 A4 c1 c2 c3 c4 f c.lim c.fr W hL hS
 rw[show(Pl.inB c.lim 0 ((f.li.length:Int)-1)&&Pl.inB c.fr 0 ((f.st.length:Int)-1))=true from h0]at ic
 have wi1:=fun W=>within_b c.er 0 100000 W
 rw[h1]at wi1
 have wi5:=fun W=>within_b c.size 0 100000 W
 rw[h5]at wi5
 have kf:=(heap_alloc_new w (.cells (fq A1 A2 A3 A4 c1 c2 c3 c4 f) 28))
 have kc:=(heap_alloc_new (w.alloc (.cells (fq A1 A2 A3 A4 c1 c2 c3 c4 f) 28)) (.cells (kkq 2 c) 48))
 rw[World.size_alloc]at kc
 have kf:=(Below.heap_alloc _ (.cells (kkq 2 c) 48) _ (lO kf)).trans kf
 have l01:=ld_row kf Tryz.underlying28 rfl info_fld
 have l02:=ld_row kc Tryz.underlying48 rfl info_cal
 have hall:Below w.heap.size w ((w.alloc (.cells (fq A1 A2 A3 A4 c1 c2 c3 c4 f) 28)).alloc (.cells (kkq 2 c) 48)):=((Below.refl _ w).alloc (Nat.le_refl _) _).alloc (by simp) _
 have l03:=ld_crsC kc
 have x1:c.lim<c.oth:=by unfold Pl.othB at h3;simp at h3;omega
 have x2:c.oth<(f.li.length:Int):=by unfold Pl.othB at h3;simp at h3;omega
 clear h0 h1 h2 h5 h3
 all_goals
  go_enter Tryz.func185,Tryz.ntmps185
  go_wp2_with fail
  refine(ic _).mono ?_
  rintro e w1 ⟨rfl,hx⟩
  clear l03
  replace kf:=kE hx kf;replace kc:=kE hx kc;replace hall:Below w.heap.size w _:=hall.trans (hx.mono hall.size);(try clear l01 l02);have l01:=ld_row kf Tryz.underlying28 rfl info_fld;have l02:=ld_row kc Tryz.underlying48 rfl info_cal;(try clear hcf hff hcc hfc);obtain⟨hcf,hff⟩:=blk_cells kf;obtain⟨hcc,hfc⟩:=blk_cells kc;clear hx
  have l03:=ld_crsC kc
  go_wp2_with fail
  refine(wi1 _).mono ?_
  rintro e w2 ⟨rfl,rfl⟩
  go_wp2_with fail
  refine(wi5 _).mono ?_
  rintro e w6 ⟨rfl,rfl⟩
  go_wp2_with fail
  go_ret
  exact⟨rfl,hall⟩
set_option maxHeartbeats 4000000 in
theorem tb0_2 (c:Pl.Cal)(w:World)(hS:f.st.length<=100000)(hL:f.li.length<=100000)(h0:Pl.cornB f.st.length f.li.length c.lim c.fr=true)(h1:Pl.inB c.er 0 100000=true)(k1:c.kind≠1)(k2:c.kind≠2)(k3:c.kind≠3)(k4:c.kind≠4)(k5:c.kind≠5):
  Calls Tryz.prog 185 #[.agg (fq A1 A2 A3 A4 c1 c2 c3 c4 f),.agg (kq c)] w fun e w'=>e=.returned (.bool false)∧Below w.heap.size w w':=by
 have hEq: ∀W,(Op.equalIn 10000 46 (.agg (cq c.crs)) (.agg z6)).run Tryz.prog W=.ok c.crs.isZ W:=fun W=>(eq_crsZ c W)
 have ic:=fun W=>isCorner_b A1 A2 A3 A4 c1 c2 c3 c4 f c.lim c.fr W hL hS
 rw[show(Pl.inB c.lim 0 ((f.li.length:Int)-1)&&Pl.inB c.fr 0 ((f.st.length:Int)-1))=true from h0]at ic
 have wi1:=fun W=>within_b c.er 0 100000 W
 rw[h1]at wi1
 have m1:((c.kind:Int)==1)=false:=by rw[beq_eq_false_iff_ne];omega
 have m2:((c.kind:Int)==2)=false:=by rw[beq_eq_false_iff_ne];omega
 have m3:((c.kind:Int)==3)=false:=by rw[beq_eq_false_iff_ne];omega
 have m4:((c.kind:Int)==4)=false:=by rw[beq_eq_false_iff_ne];omega
 have m5:((c.kind:Int)==5)=false:=by rw[beq_eq_false_iff_ne];omega
 clear k1 k2 k3 k4 k5
 have kf:=(heap_alloc_new w (.cells (fq A1 A2 A3 A4 c1 c2 c3 c4 f) 28))
 have kc:=(heap_alloc_new (w.alloc (.cells (fq A1 A2 A3 A4 c1 c2 c3 c4 f) 28)) (.cells (kq c) 48))
 rw[World.size_alloc]at kc
 have kf:=(Below.heap_alloc _ (.cells (kq c) 48) _ (lO kf)).trans kf
 have l01:=ld_row kf Tryz.underlying28 rfl info_fld
 have l02:=ld_row kc Tryz.underlying48 rfl info_cal
 have hall:Below w.heap.size w ((w.alloc (.cells (fq A1 A2 A3 A4 c1 c2 c3 c4 f) 28)).alloc (.cells (kq c) 48)):=((Below.refl _ w).alloc (Nat.le_refl _) _).alloc (by simp) _
 have l03:=ld_crsC kc
 clear h0 h1
 rcases(show(¬c.lim<c.oth)∨(c.lim<c.oth∧ ¬c.oth<(f.li.length:Int))∨(c.lim<c.oth∧c.oth<(f.li.length:Int)) by omega)with x1|⟨x1,x2⟩|⟨x1,x2⟩
 all_goals
  go_enter Tryz.func185,Tryz.ntmps185
  go_wp2_with fail
  refine(ic _).mono ?_
  rintro e w1 ⟨rfl,hx⟩
  clear l03
  replace kf:=kE hx kf;replace kc:=kE hx kc;replace hall:Below w.heap.size w _:=hall.trans (hx.mono hall.size);(try clear l01 l02);have l01:=ld_row kf Tryz.underlying28 rfl info_fld;have l02:=ld_row kc Tryz.underlying48 rfl info_cal;(try clear hcf hff hcc hfc);obtain⟨hcf,hff⟩:=blk_cells kf;obtain⟨hcc,hfc⟩:=blk_cells kc;clear hx
  have l03:=ld_crsC kc
  go_wp2_with fail
  refine(wi1 _).mono ?_
  rintro e w2 ⟨rfl,rfl⟩
  go_wp2_with fail
  go_ret
  exact⟨rfl,hall⟩
set_option maxHeartbeats 4000000 in
theorem tbp_0 (c:Pl.Cal)(w:World)(hS:f.st.length<=100000)(hL:f.li.length<=100000)(h0:Pl.cornB f.st.length f.li.length c.lim c.fr=false):
  Calls Tryz.prog 185 #[.agg (fq A1 A2 A3 A4 c1 c2 c3 c4 f),.agg (kq c)] w fun e w'=>e=.returned (.bool false)∧Below w.heap.size w w':=by
 have hEq: ∀W,(Op.equalIn 10000 46 (.agg (cq c.crs)) (.agg z6)).run Tryz.prog W=.ok c.crs.isZ W:=fun W=>(eq_crsZ c W)
 have ic:=fun W=>isCorner_b A1 A2 A3 A4 c1 c2 c3 c4 f c.lim c.fr W hL hS
 rw[show(Pl.inB c.lim 0 ((f.li.length:Int)-1)&&Pl.inB c.fr 0 ((f.st.length:Int)-1))=false from h0]at ic
 have kf:=(heap_alloc_new w (.cells (fq A1 A2 A3 A4 c1 c2 c3 c4 f) 28))
 have kc:=(heap_alloc_new (w.alloc (.cells (fq A1 A2 A3 A4 c1 c2 c3 c4 f) 28)) (.cells (kq c) 48))
 rw[World.size_alloc]at kc
 have kf:=(Below.heap_alloc _ (.cells (kq c) 48) _ (lO kf)).trans kf
 have l01:=ld_row kf Tryz.underlying28 rfl info_fld
 have l02:=ld_row kc Tryz.underlying48 rfl info_cal
 have hall:Below w.heap.size w ((w.alloc (.cells (fq A1 A2 A3 A4 c1 c2 c3 c4 f) 28)).alloc (.cells (kq c) 48)):=((Below.refl _ w).alloc (Nat.le_refl _) _).alloc (by simp) _
 have l03:=ld_crsC kc
 clear h0
 rcases(show(¬c.lim<c.oth)∨(c.lim<c.oth∧ ¬c.oth<(f.li.length:Int))∨(c.lim<c.oth∧c.oth<(f.li.length:Int)) by omega)with x1|⟨x1,x2⟩|⟨x1,x2⟩
 all_goals
  go_enter Tryz.func185,Tryz.ntmps185
  go_wp2_with fail
  refine(ic _).mono ?_
  rintro e w1 ⟨rfl,hx⟩
  clear l03
  replace kf:=kE hx kf;replace kc:=kE hx kc;replace hall:Below w.heap.size w _:=hall.trans (hx.mono hall.size);(try clear l01 l02);have l01:=ld_row kf Tryz.underlying28 rfl info_fld;have l02:=ld_row kc Tryz.underlying48 rfl info_cal;(try clear hcf hff hcc hfc);obtain⟨hcf,hff⟩:=blk_cells kf;obtain⟨hcc,hfc⟩:=blk_cells kc;clear hx
  have l03:=ld_crsC kc
  go_wp2_with fail
  go_ret
  exact⟨rfl,hall⟩
set_option maxHeartbeats 4000000 in
theorem tbp_1 (c:Pl.Cal)(w:World)(hS:f.st.length<=100000)(hL:f.li.length<=100000)(h0:Pl.cornB f.st.length f.li.length c.lim c.fr=true)(h1:Pl.inB c.er 0 100000=false):
  Calls Tryz.prog 185 #[.agg (fq A1 A2 A3 A4 c1 c2 c3 c4 f),.agg (kq c)] w fun e w'=>e=.returned (.bool false)∧Below w.heap.size w w':=by
 have hEq: ∀W,(Op.equalIn 10000 46 (.agg (cq c.crs)) (.agg z6)).run Tryz.prog W=.ok c.crs.isZ W:=fun W=>(eq_crsZ c W)
 have ic:=fun W=>isCorner_b A1 A2 A3 A4 c1 c2 c3 c4 f c.lim c.fr W hL hS
 rw[show(Pl.inB c.lim 0 ((f.li.length:Int)-1)&&Pl.inB c.fr 0 ((f.st.length:Int)-1))=true from h0]at ic
 have wi1:=fun W=>within_b c.er 0 100000 W
 rw[h1]at wi1
 have kf:=(heap_alloc_new w (.cells (fq A1 A2 A3 A4 c1 c2 c3 c4 f) 28))
 have kc:=(heap_alloc_new (w.alloc (.cells (fq A1 A2 A3 A4 c1 c2 c3 c4 f) 28)) (.cells (kq c) 48))
 rw[World.size_alloc]at kc
 have kf:=(Below.heap_alloc _ (.cells (kq c) 48) _ (lO kf)).trans kf
 have l01:=ld_row kf Tryz.underlying28 rfl info_fld
 have l02:=ld_row kc Tryz.underlying48 rfl info_cal
 have hall:Below w.heap.size w ((w.alloc (.cells (fq A1 A2 A3 A4 c1 c2 c3 c4 f) 28)).alloc (.cells (kq c) 48)):=((Below.refl _ w).alloc (Nat.le_refl _) _).alloc (by simp) _
 have l03:=ld_crsC kc
 clear h0 h1
 rcases(show(¬c.lim<c.oth)∨(c.lim<c.oth∧ ¬c.oth<(f.li.length:Int))∨(c.lim<c.oth∧c.oth<(f.li.length:Int)) by omega)with x1|⟨x1,x2⟩|⟨x1,x2⟩
 all_goals
  go_enter Tryz.func185,Tryz.ntmps185
  go_wp2_with fail
  refine(ic _).mono ?_
  rintro e w1 ⟨rfl,hx⟩
  clear l03
  replace kf:=kE hx kf;replace kc:=kE hx kc;replace hall:Below w.heap.size w _:=hall.trans (hx.mono hall.size);(try clear l01 l02);have l01:=ld_row kf Tryz.underlying28 rfl info_fld;have l02:=ld_row kc Tryz.underlying48 rfl info_cal;(try clear hcf hff hcc hfc);obtain⟨hcf,hff⟩:=blk_cells kf;obtain⟨hcc,hfc⟩:=blk_cells kc;clear hx
  have l03:=ld_crsC kc
  go_wp2_with fail
  refine(wi1 _).mono ?_
  rintro e w2 ⟨rfl,rfl⟩
  go_wp2_with fail
  go_ret
  exact⟨rfl,hall⟩
end Go.Proofs.YtgbpekeoegfjpaaGreatDoor
namespace Go.Proofs.YtgbpekeoegfjpaaGreatDoor
open Go.RowKit
variable (A1 A2 A3 A4 : Option Addr) (c1 c2 c3 c4 : Nat) (f : Pl.Fld)
attribute [-go_sem] run_equalIn_agg storeVar loadVar
attribute [local go_sem] lv_int lv_bool lv_u8 lv_string lv_strings lv_stas lv_pars lv_vars
set_option maxHeartbeats 4000000 in
theorem tb4_2 (c:Pl.Cal)(w:World)(hS:f.st.length<=100000)(hL:f.li.length<=100000)(h0:Pl.cornB f.st.length f.li.length c.lim c.fr=true)(h1:Pl.inB c.er 0 100000=true)(h2:c.crs.isZ=false):
  Calls Tryz.prog 185 #[.agg (fq A1 A2 A3 A4 c1 c2 c3 c4 f),.agg (kkq 4 c)] w fun e w'=>e=.returned (.bool false)∧Below w.heap.size w w':=by
 have hEq: ∀W,(Op.equalIn 10000 46 (.agg (cq c.crs)) (.agg z6)).run Tryz.prog W=.ok false W:=fun W=>(eq_crsZ c W).trans (by rw[h2])
 have ic:=fun W=>isCorner_b A1 A2 A3 A4 c1 c2 c3 c4 f c.lim c.fr W hL hS
 rw[show(Pl.inB c.lim 0 ((f.li.length:Int)-1)&&Pl.inB c.fr 0 ((f.st.length:Int)-1))=true from h0]at ic
 have wi1:=fun W=>within_b c.er 0 100000 W
 rw[h1]at wi1
 have kf:=(heap_alloc_new w (.cells (fq A1 A2 A3 A4 c1 c2 c3 c4 f) 28))
 have kc:=(heap_alloc_new (w.alloc (.cells (fq A1 A2 A3 A4 c1 c2 c3 c4 f) 28)) (.cells (kkq 4 c) 48))
 rw[World.size_alloc]at kc
 have kf:=(Below.heap_alloc _ (.cells (kkq 4 c) 48) _ (lO kf)).trans kf
 have l01:=ld_row kf Tryz.underlying28 rfl info_fld
 have l02:=ld_row kc Tryz.underlying48 rfl info_cal
 have hall:Below w.heap.size w ((w.alloc (.cells (fq A1 A2 A3 A4 c1 c2 c3 c4 f) 28)).alloc (.cells (kkq 4 c) 48)):=((Below.refl _ w).alloc (Nat.le_refl _) _).alloc (by simp) _
 have l03:=ld_crsC kc
 clear h0 h1 h2
 rcases(show(¬c.lim<c.oth)∨(c.lim<c.oth∧ ¬c.oth<(f.li.length:Int))∨(c.lim<c.oth∧c.oth<(f.li.length:Int)) by omega)with x1|⟨x1,x2⟩|⟨x1,x2⟩
 all_goals
  go_enter Tryz.func185,Tryz.ntmps185
  go_wp2_with fail
  refine(ic _).mono ?_
  rintro e w1 ⟨rfl,hx⟩
  clear l03
  replace kf:=kE hx kf;replace kc:=kE hx kc;replace hall:Below w.heap.size w _:=hall.trans (hx.mono hall.size);(try clear l01 l02);have l01:=ld_row kf Tryz.underlying28 rfl info_fld;have l02:=ld_row kc Tryz.underlying48 rfl info_cal;(try clear hcf hff hcc hfc);obtain⟨hcf,hff⟩:=blk_cells kf;obtain⟨hcc,hfc⟩:=blk_cells kc;clear hx
  have l03:=ld_crsC kc
  go_wp2_with fail
  refine(wi1 _).mono ?_
  rintro e w2 ⟨rfl,rfl⟩
  go_wp2_with fail
  go_ret
  exact⟨rfl,hall⟩
set_option maxHeartbeats 4000000 in
theorem tb4_3 (c:Pl.Cal)(w:World)(hS:f.st.length<=100000)(hL:f.li.length<=100000)(h0:Pl.cornB f.st.length f.li.length c.lim c.fr=true)(h1:Pl.inB c.er 0 100000=true)(h2:c.crs.isZ=true)(h3:Pl.othB f.li.length c=false):
  Calls Tryz.prog 185 #[.agg (fq A1 A2 A3 A4 c1 c2 c3 c4 f),.agg (kkq 4 c)] w fun e w'=>e=.returned (.bool false)∧Below w.heap.size w w':=by
 have hEq: ∀W,(Op.equalIn 10000 46 (.agg (cq c.crs)) (.agg z6)).run Tryz.prog W=.ok true W:=fun W=>(eq_crsZ c W).trans (by rw[h2])
 have ic:=fun W=>isCorner_b A1 A2 A3 A4 c1 c2 c3 c4 f c.lim c.fr W hL hS
 rw[show(Pl.inB c.lim 0 ((f.li.length:Int)-1)&&Pl.inB c.fr 0 ((f.st.length:Int)-1))=true from h0]at ic
 have wi1:=fun W=>within_b c.er 0 100000 W
 rw[h1]at wi1
 have kf:=(heap_alloc_new w (.cells (fq A1 A2 A3 A4 c1 c2 c3 c4 f) 28))
 have kc:=(heap_alloc_new (w.alloc (.cells (fq A1 A2 A3 A4 c1 c2 c3 c4 f) 28)) (.cells (kkq 4 c) 48))
 rw[World.size_alloc]at kc
 have kf:=(Below.heap_alloc _ (.cells (kkq 4 c) 48) _ (lO kf)).trans kf
 have l01:=ld_row kf Tryz.underlying28 rfl info_fld
 have l02:=ld_row kc Tryz.underlying48 rfl info_cal
 have hall:Below w.heap.size w ((w.alloc (.cells (fq A1 A2 A3 A4 c1 c2 c3 c4 f) 28)).alloc (.cells (kkq 4 c) 48)):=((Below.refl _ w).alloc (Nat.le_refl _) _).alloc (by simp) _
 have l03:=ld_crsC kc
 have x0: ¬c.lim<c.oth∨(c.lim<c.oth∧ ¬c.oth<(f.li.length:Int)):=by unfold Pl.othB at h3;simp at h3;omega
 clear h0 h1 h2 h3
 rcases x0 with x1|⟨x1,x2⟩
 all_goals
  go_enter Tryz.func185,Tryz.ntmps185
  go_wp2_with fail
  refine(ic _).mono ?_
  rintro e w1 ⟨rfl,hx⟩
  clear l03
  replace kf:=kE hx kf;replace kc:=kE hx kc;replace hall:Below w.heap.size w _:=hall.trans (hx.mono hall.size);(try clear l01 l02);have l01:=ld_row kf Tryz.underlying28 rfl info_fld;have l02:=ld_row kc Tryz.underlying48 rfl info_cal;(try clear hcf hff hcc hfc);obtain⟨hcf,hff⟩:=blk_cells kf;obtain⟨hcc,hfc⟩:=blk_cells kc;clear hx
  have l03:=ld_crsC kc
  go_wp2_with fail
  refine(wi1 _).mono ?_
  rintro e w2 ⟨rfl,rfl⟩
  go_wp2_with fail
  go_ret
  exact⟨rfl,hall⟩
set_option maxHeartbeats 4000000 in
theorem tb4_4 (c:Pl.Cal)(w:World)(hS:f.st.length<=100000)(hL:f.li.length<=100000)(h0:Pl.cornB f.st.length f.li.length c.lim c.fr=true)(h1:Pl.inB c.er 0 100000=true)(h2:c.crs.isZ=true)(h3:Pl.othB f.li.length c=true)(h4:(c.size==0)=false):
  Calls Tryz.prog 185 #[.agg (fq A1 A2 A3 A4 c1 c2 c3 c4 f),.agg (kkq 4 c)] w fun e w'=>e=.returned (.bool false)∧Below w.heap.size w w':=by
 have hEq: ∀W,(Op.equalIn 10000 46 (.agg (cq c.crs)) (.agg z6)).run Tryz.prog W=.ok true W:=fun W=>(eq_crsZ c W).trans (by rw[h2])
 have ic:=fun W=>isCorner_b A1 A2 A3 A4 c1 c2 c3 c4 f c.lim c.fr W hL hS
 rw[show(Pl.inB c.lim 0 ((f.li.length:Int)-1)&&Pl.inB c.fr 0 ((f.st.length:Int)-1))=true from h0]at ic
 have wi1:=fun W=>within_b c.er 0 100000 W
 rw[h1]at wi1
 have kf:=(heap_alloc_new w (.cells (fq A1 A2 A3 A4 c1 c2 c3 c4 f) 28))
 have kc:=(heap_alloc_new (w.alloc (.cells (fq A1 A2 A3 A4 c1 c2 c3 c4 f) 28)) (.cells (kkq 4 c) 48))
 rw[World.size_alloc]at kc
 have kf:=(Below.heap_alloc _ (.cells (kkq 4 c) 48) _ (lO kf)).trans kf
 have l01:=ld_row kf Tryz.underlying28 rfl info_fld
 have l02:=ld_row kc Tryz.underlying48 rfl info_cal
 have hall:Below w.heap.size w ((w.alloc (.cells (fq A1 A2 A3 A4 c1 c2 c3 c4 f) 28)).alloc (.cells (kkq 4 c) 48)):=((Below.refl _ w).alloc (Nat.le_refl _) _).alloc (by simp) _
 have l03:=ld_crsC kc
 have x1:c.lim<c.oth:=by unfold Pl.othB at h3;simp at h3;omega
 have x2:c.oth<(f.li.length:Int):=by unfold Pl.othB at h3;simp at h3;omega
 clear h0 h1 h2 h3
 all_goals
  go_enter Tryz.func185,Tryz.ntmps185
  go_wp2_with fail
  refine(ic _).mono ?_
  rintro e w1 ⟨rfl,hx⟩
  clear l03
  replace kf:=kE hx kf;replace kc:=kE hx kc;replace hall:Below w.heap.size w _:=hall.trans (hx.mono hall.size);(try clear l01 l02);have l01:=ld_row kf Tryz.underlying28 rfl info_fld;have l02:=ld_row kc Tryz.underlying48 rfl info_cal;(try clear hcf hff hcc hfc);obtain⟨hcf,hff⟩:=blk_cells kf;obtain⟨hcc,hfc⟩:=blk_cells kc;clear hx
  have l03:=ld_crsC kc
  go_wp2_with fail
  refine(wi1 _).mono ?_
  rintro e w2 ⟨rfl,rfl⟩
  go_wp2_with fail
  go_ret
  exact⟨rfl,hall⟩
set_option maxHeartbeats 4000000 in
theorem tb4_5 (c:Pl.Cal)(w:World)(hS:f.st.length<=100000)(hL:f.li.length<=100000)(h0:Pl.cornB f.st.length f.li.length c.lim c.fr=true)(h1:Pl.inB c.er 0 100000=true)(h2:c.crs.isZ=true)(h3:Pl.othB f.li.length c=true)(h4:(c.size==0)=true)(h5:(c.er==0)=false):
  Calls Tryz.prog 185 #[.agg (fq A1 A2 A3 A4 c1 c2 c3 c4 f),.agg (kkq 4 c)] w fun e w'=>e=.returned (.bool false)∧Below w.heap.size w w':=by
 have hEq: ∀W,(Op.equalIn 10000 46 (.agg (cq c.crs)) (.agg z6)).run Tryz.prog W=.ok true W:=fun W=>(eq_crsZ c W).trans (by rw[h2])
 have ic:=fun W=>isCorner_b A1 A2 A3 A4 c1 c2 c3 c4 f c.lim c.fr W hL hS
 rw[show(Pl.inB c.lim 0 ((f.li.length:Int)-1)&&Pl.inB c.fr 0 ((f.st.length:Int)-1))=true from h0]at ic
 have wi1:=fun W=>within_b c.er 0 100000 W
 rw[h1]at wi1
 have kf:=(heap_alloc_new w (.cells (fq A1 A2 A3 A4 c1 c2 c3 c4 f) 28))
 have kc:=(heap_alloc_new (w.alloc (.cells (fq A1 A2 A3 A4 c1 c2 c3 c4 f) 28)) (.cells (kkq 4 c) 48))
 rw[World.size_alloc]at kc
 have kf:=(Below.heap_alloc _ (.cells (kkq 4 c) 48) _ (lO kf)).trans kf
 have l01:=ld_row kf Tryz.underlying28 rfl info_fld
 have l02:=ld_row kc Tryz.underlying48 rfl info_cal
 have hall:Below w.heap.size w ((w.alloc (.cells (fq A1 A2 A3 A4 c1 c2 c3 c4 f) 28)).alloc (.cells (kkq 4 c) 48)):=((Below.refl _ w).alloc (Nat.le_refl _) _).alloc (by simp) _
 have l03:=ld_crsC kc
 have x1:c.lim<c.oth:=by unfold Pl.othB at h3;simp at h3;omega
 have x2:c.oth<(f.li.length:Int):=by unfold Pl.othB at h3;simp at h3;omega
 clear h0 h1 h2 h3
 all_goals
  go_enter Tryz.func185,Tryz.ntmps185
  go_wp2_with fail
  refine(ic _).mono ?_
  rintro e w1 ⟨rfl,hx⟩
  clear l03
  replace kf:=kE hx kf;replace kc:=kE hx kc;replace hall:Below w.heap.size w _:=hall.trans (hx.mono hall.size);(try clear l01 l02);have l01:=ld_row kf Tryz.underlying28 rfl info_fld;have l02:=ld_row kc Tryz.underlying48 rfl info_cal;(try clear hcf hff hcc hfc);obtain⟨hcf,hff⟩:=blk_cells kf;obtain⟨hcc,hfc⟩:=blk_cells kc;clear hx
  have l03:=ld_crsC kc
  go_wp2_with fail
  refine(wi1 _).mono ?_
  rintro e w2 ⟨rfl,rfl⟩
  go_wp2_with fail
  go_ret
  exact⟨rfl,hall⟩
set_option maxHeartbeats 4000000 in
theorem tb4_6 (c:Pl.Cal)(w:World)(hS:f.st.length<=100000)(hL:f.li.length<=100000)(h0:Pl.cornB f.st.length f.li.length c.lim c.fr=true)(h1:Pl.inB c.er 0 100000=true)(h2:c.crs.isZ=true)(h3:Pl.othB f.li.length c=true)(h4:(c.size==0)=true)(h5:(c.er==0)=true)(h6:decide (c.fr<c.till)=false):
  Calls Tryz.prog 185 #[.agg (fq A1 A2 A3 A4 c1 c2 c3 c4 f),.agg (kkq 4 c)] w fun e w'=>e=.returned (.bool false)∧Below w.heap.size w w':=by
 have hEq: ∀W,(Op.equalIn 10000 46 (.agg (cq c.crs)) (.agg z6)).run Tryz.prog W=.ok true W:=fun W=>(eq_crsZ c W).trans (by rw[h2])
 have ic:=fun W=>isCorner_b A1 A2 A3 A4 c1 c2 c3 c4 f c.lim c.fr W hL hS
 rw[show(Pl.inB c.lim 0 ((f.li.length:Int)-1)&&Pl.inB c.fr 0 ((f.st.length:Int)-1))=true from h0]at ic
 have wi1:=fun W=>within_b c.er 0 100000 W
 rw[h1]at wi1
 have d6: ¬c.fr<c.till:=of_decide_eq_false h6
 have kf:=(heap_alloc_new w (.cells (fq A1 A2 A3 A4 c1 c2 c3 c4 f) 28))
 have kc:=(heap_alloc_new (w.alloc (.cells (fq A1 A2 A3 A4 c1 c2 c3 c4 f) 28)) (.cells (kkq 4 c) 48))
 rw[World.size_alloc]at kc
 have kf:=(Below.heap_alloc _ (.cells (kkq 4 c) 48) _ (lO kf)).trans kf
 have l01:=ld_row kf Tryz.underlying28 rfl info_fld
 have l02:=ld_row kc Tryz.underlying48 rfl info_cal
 have hall:Below w.heap.size w ((w.alloc (.cells (fq A1 A2 A3 A4 c1 c2 c3 c4 f) 28)).alloc (.cells (kkq 4 c) 48)):=((Below.refl _ w).alloc (Nat.le_refl _) _).alloc (by simp) _
 have l03:=ld_crsC kc
 have x1:c.lim<c.oth:=by unfold Pl.othB at h3;simp at h3;omega
 have x2:c.oth<(f.li.length:Int):=by unfold Pl.othB at h3;simp at h3;omega
 clear h0 h1 h2 h6 h3
 all_goals
  go_enter Tryz.func185,Tryz.ntmps185
  go_wp2_with fail
  refine(ic _).mono ?_
  rintro e w1 ⟨rfl,hx⟩
  clear l03
  replace kf:=kE hx kf;replace kc:=kE hx kc;replace hall:Below w.heap.size w _:=hall.trans (hx.mono hall.size);(try clear l01 l02);have l01:=ld_row kf Tryz.underlying28 rfl info_fld;have l02:=ld_row kc Tryz.underlying48 rfl info_cal;(try clear hcf hff hcc hfc);obtain⟨hcf,hff⟩:=blk_cells kf;obtain⟨hcc,hfc⟩:=blk_cells kc;clear hx
  have l03:=ld_crsC kc
  go_wp2_with fail
  refine(wi1 _).mono ?_
  rintro e w2 ⟨rfl,rfl⟩
  go_wp2_with fail
  go_ret
  exact⟨rfl,hall⟩
set_option maxHeartbeats 4000000 in
theorem tb4_7 (c:Pl.Cal)(w:World)(hS:f.st.length<=100000)(hL:f.li.length<=100000)(h0:Pl.cornB f.st.length f.li.length c.lim c.fr=true)(h1:Pl.inB c.er 0 100000=true)(h2:c.crs.isZ=true)(h3:Pl.othB f.li.length c=true)(h4:(c.size==0)=true)(h5:(c.er==0)=true)(h6:decide (c.fr<c.till)=true)(h7:decide (c.till<(f.st.length:Int))=false):
  Calls Tryz.prog 185 #[.agg (fq A1 A2 A3 A4 c1 c2 c3 c4 f),.agg (kkq 4 c)] w fun e w'=>e=.returned (.bool false)∧Below w.heap.size w w':=by
 have hEq: ∀W,(Op.equalIn 10000 46 (.agg (cq c.crs)) (.agg z6)).run Tryz.prog W=.ok true W:=fun W=>(eq_crsZ c W).trans (by rw[h2])
 have ic:=fun W=>isCorner_b A1 A2 A3 A4 c1 c2 c3 c4 f c.lim c.fr W hL hS
 rw[show(Pl.inB c.lim 0 ((f.li.length:Int)-1)&&Pl.inB c.fr 0 ((f.st.length:Int)-1))=true from h0]at ic
 have wi1:=fun W=>within_b c.er 0 100000 W
 rw[h1]at wi1
 have d6:c.fr<c.till:=of_decide_eq_true h6
 have d7: ¬c.till<(f.st.length:Int):=of_decide_eq_false h7
 have kf:=(heap_alloc_new w (.cells (fq A1 A2 A3 A4 c1 c2 c3 c4 f) 28))
 have kc:=(heap_alloc_new (w.alloc (.cells (fq A1 A2 A3 A4 c1 c2 c3 c4 f) 28)) (.cells (kkq 4 c) 48))
 rw[World.size_alloc]at kc
 have kf:=(Below.heap_alloc _ (.cells (kkq 4 c) 48) _ (lO kf)).trans kf
 have l01:=ld_row kf Tryz.underlying28 rfl info_fld
 have l02:=ld_row kc Tryz.underlying48 rfl info_cal
 have hall:Below w.heap.size w ((w.alloc (.cells (fq A1 A2 A3 A4 c1 c2 c3 c4 f) 28)).alloc (.cells (kkq 4 c) 48)):=((Below.refl _ w).alloc (Nat.le_refl _) _).alloc (by simp) _
 have l03:=ld_crsC kc
 have x1:c.lim<c.oth:=by unfold Pl.othB at h3;simp at h3;omega
 have x2:c.oth<(f.li.length:Int):=by unfold Pl.othB at h3;simp at h3;omega
 clear h0 h1 h2 h6 h3
 all_goals
  go_enter Tryz.func185,Tryz.ntmps185
  go_wp2_with fail
  refine(ic _).mono ?_
  rintro e w1 ⟨rfl,hx⟩
  clear l03
  replace kf:=kE hx kf;replace kc:=kE hx kc;replace hall:Below w.heap.size w _:=hall.trans (hx.mono hall.size);(try clear l01 l02);have l01:=ld_row kf Tryz.underlying28 rfl info_fld;have l02:=ld_row kc Tryz.underlying48 rfl info_cal;(try clear hcf hff hcc hfc);obtain⟨hcf,hff⟩:=blk_cells kf;obtain⟨hcc,hfc⟩:=blk_cells kc;clear hx
  have l03:=ld_crsC kc
  go_wp2_with fail
  refine(wi1 _).mono ?_
  rintro e w2 ⟨rfl,rfl⟩
  go_wp2_with fail
  go_ret
  exact⟨by first|rfl|exact congrArg (fun b=>Ending.returned (Value.bool b)) h7,hall⟩
set_option maxHeartbeats 4000000 in
theorem tb4_8 (c:Pl.Cal)(w:World)(hS:f.st.length<=100000)(hL:f.li.length<=100000)(h0:Pl.cornB f.st.length f.li.length c.lim c.fr=true)(h1:Pl.inB c.er 0 100000=true)(h2:c.crs.isZ=true)(h3:Pl.othB f.li.length c=true)(h4:(c.size==0)=true)(h5:(c.er==0)=true)(h6:decide (c.fr<c.till)=true)(h7:decide (c.till<(f.st.length:Int))=true):
  Calls Tryz.prog 185 #[.agg (fq A1 A2 A3 A4 c1 c2 c3 c4 f),.agg (kkq 4 c)] w fun e w'=>e=.returned (.bool true)∧Below w.heap.size w w':=by
 have hEq: ∀W,(Op.equalIn 10000 46 (.agg (cq c.crs)) (.agg z6)).run Tryz.prog W=.ok true W:=fun W=>(eq_crsZ c W).trans (by rw[h2])
 have ic:=fun W=>isCorner_b A1 A2 A3 A4 c1 c2 c3 c4 f c.lim c.fr W hL hS
 rw[show(Pl.inB c.lim 0 ((f.li.length:Int)-1)&&Pl.inB c.fr 0 ((f.st.length:Int)-1))=true from h0]at ic
 have wi1:=fun W=>within_b c.er 0 100000 W
 rw[h1]at wi1
 have d6:c.fr<c.till:=of_decide_eq_true h6
 have d7:c.till<(f.st.length:Int):=of_decide_eq_true h7
 have kf:=(heap_alloc_new w (.cells (fq A1 A2 A3 A4 c1 c2 c3 c4 f) 28))
 have kc:=(heap_alloc_new (w.alloc (.cells (fq A1 A2 A3 A4 c1 c2 c3 c4 f) 28)) (.cells (kkq 4 c) 48))
 rw[World.size_alloc]at kc
 have kf:=(Below.heap_alloc _ (.cells (kkq 4 c) 48) _ (lO kf)).trans kf
 have l01:=ld_row kf Tryz.underlying28 rfl info_fld
 have l02:=ld_row kc Tryz.underlying48 rfl info_cal
 have hall:Below w.heap.size w ((w.alloc (.cells (fq A1 A2 A3 A4 c1 c2 c3 c4 f) 28)).alloc (.cells (kkq 4 c) 48)):=((Below.refl _ w).alloc (Nat.le_refl _) _).alloc (by simp) _
 have l03:=ld_crsC kc
 have x1:c.lim<c.oth:=by unfold Pl.othB at h3;simp at h3;omega
 have x2:c.oth<(f.li.length:Int):=by unfold Pl.othB at h3;simp at h3;omega
 clear h0 h1 h2 h6 h7 h3
 all_goals
  go_enter Tryz.func185,Tryz.ntmps185
  go_wp2_with fail
  refine(ic _).mono ?_
  rintro e w1 ⟨rfl,hx⟩
  clear l03
  replace kf:=kE hx kf;replace kc:=kE hx kc;replace hall:Below w.heap.size w _:=hall.trans (hx.mono hall.size);(try clear l01 l02);have l01:=ld_row kf Tryz.underlying28 rfl info_fld;have l02:=ld_row kc Tryz.underlying48 rfl info_cal;(try clear hcf hff hcc hfc);obtain⟨hcf,hff⟩:=blk_cells kf;obtain⟨hcc,hfc⟩:=blk_cells kc;clear hx
  have l03:=ld_crsC kc
  go_wp2_with fail
  refine(wi1 _).mono ?_
  rintro e w2 ⟨rfl,rfl⟩
  go_wp2_with fail
  go_ret
  exact⟨rfl,hall⟩
end Go.Proofs.YtgbpekeoegfjpaaGreatDoor
namespace Go.Proofs.YtgbpekeoegfjpaaGreatDoor
open Go.RowKit
variable (A1 A2 A3 A4 : Option Addr) (c1 c2 c3 c4 : Nat) (f : Pl.Fld)
attribute [-go_sem] run_equalIn_agg storeVar loadVar
attribute [local go_sem] lv_int lv_bool lv_u8 lv_string lv_strings lv_stas lv_pars lv_vars
set_option maxHeartbeats 4000000 in
theorem tb5_2 (c:Pl.Cal)(w:World)(hS:f.st.length<=100000)(hL:f.li.length<=100000)(h0:Pl.cornB f.st.length f.li.length c.lim c.fr=true)(h1:Pl.inB c.er 0 100000=true)(h2:c.crs.isZ=false):
  Calls Tryz.prog 185 #[.agg (fq A1 A2 A3 A4 c1 c2 c3 c4 f),.agg (kkq 5 c)] w fun e w'=>e=.returned (.bool false)∧Below w.heap.size w w':=by
 have hEq: ∀W,(Op.equalIn 10000 46 (.agg (cq c.crs)) (.agg z6)).run Tryz.prog W=.ok false W:=fun W=>(eq_crsZ c W).trans (by rw[h2])
 have ic:=fun W=>isCorner_b A1 A2 A3 A4 c1 c2 c3 c4 f c.lim c.fr W hL hS
 rw[show(Pl.inB c.lim 0 ((f.li.length:Int)-1)&&Pl.inB c.fr 0 ((f.st.length:Int)-1))=true from h0]at ic
 have wi1:=fun W=>within_b c.er 0 100000 W
 rw[h1]at wi1
 have kf:=(heap_alloc_new w (.cells (fq A1 A2 A3 A4 c1 c2 c3 c4 f) 28))
 have kc:=(heap_alloc_new (w.alloc (.cells (fq A1 A2 A3 A4 c1 c2 c3 c4 f) 28)) (.cells (kkq 5 c) 48))
 rw[World.size_alloc]at kc
 have kf:=(Below.heap_alloc _ (.cells (kkq 5 c) 48) _ (lO kf)).trans kf
 have l01:=ld_row kf Tryz.underlying28 rfl info_fld
 have l02:=ld_row kc Tryz.underlying48 rfl info_cal
 have hall:Below w.heap.size w ((w.alloc (.cells (fq A1 A2 A3 A4 c1 c2 c3 c4 f) 28)).alloc (.cells (kkq 5 c) 48)):=((Below.refl _ w).alloc (Nat.le_refl _) _).alloc (by simp) _
 have l03:=ld_crsC kc
 clear h0 h1 h2
 rcases(show(¬c.lim<c.oth)∨(c.lim<c.oth∧ ¬c.oth<(f.li.length:Int))∨(c.lim<c.oth∧c.oth<(f.li.length:Int)) by omega)with x1|⟨x1,x2⟩|⟨x1,x2⟩
 all_goals
  go_enter Tryz.func185,Tryz.ntmps185
  go_wp2_with fail
  refine(ic _).mono ?_
  rintro e w1 ⟨rfl,hx⟩
  clear l03
  replace kf:=kE hx kf;replace kc:=kE hx kc;replace hall:Below w.heap.size w _:=hall.trans (hx.mono hall.size);(try clear l01 l02);have l01:=ld_row kf Tryz.underlying28 rfl info_fld;have l02:=ld_row kc Tryz.underlying48 rfl info_cal;(try clear hcf hff hcc hfc);obtain⟨hcf,hff⟩:=blk_cells kf;obtain⟨hcc,hfc⟩:=blk_cells kc;clear hx
  have l03:=ld_crsC kc
  go_wp2_with fail
  refine(wi1 _).mono ?_
  rintro e w2 ⟨rfl,rfl⟩
  go_wp2_with fail
  go_ret
  exact⟨rfl,hall⟩
set_option maxHeartbeats 4000000 in
theorem tb5_3 (c:Pl.Cal)(w:World)(hS:f.st.length<=100000)(hL:f.li.length<=100000)(h0:Pl.cornB f.st.length f.li.length c.lim c.fr=true)(h1:Pl.inB c.er 0 100000=true)(h2:c.crs.isZ=true)(h3:(c.oth==0)=false):
  Calls Tryz.prog 185 #[.agg (fq A1 A2 A3 A4 c1 c2 c3 c4 f),.agg (kkq 5 c)] w fun e w'=>e=.returned (.bool false)∧Below w.heap.size w w':=by
 have hEq: ∀W,(Op.equalIn 10000 46 (.agg (cq c.crs)) (.agg z6)).run Tryz.prog W=.ok true W:=fun W=>(eq_crsZ c W).trans (by rw[h2])
 have ic:=fun W=>isCorner_b A1 A2 A3 A4 c1 c2 c3 c4 f c.lim c.fr W hL hS
 rw[show(Pl.inB c.lim 0 ((f.li.length:Int)-1)&&Pl.inB c.fr 0 ((f.st.length:Int)-1))=true from h0]at ic
 have wi1:=fun W=>within_b c.er 0 100000 W
 rw[h1]at wi1
 have kf:=(heap_alloc_new w (.cells (fq A1 A2 A3 A4 c1 c2 c3 c4 f) 28))
 have kc:=(heap_alloc_new (w.alloc (.cells (fq A1 A2 A3 A4 c1 c2 c3 c4 f) 28)) (.cells (kkq 5 c) 48))
 rw[World.size_alloc]at kc
 have kf:=(Below.heap_alloc _ (.cells (kkq 5 c) 48) _ (lO kf)).trans kf
 have l01:=ld_row kf Tryz.underlying28 rfl info_fld
 have l02:=ld_row kc Tryz.underlying48 rfl info_cal
 have hall:Below w.heap.size w ((w.alloc (.cells (fq A1 A2 A3 A4 c1 c2 c3 c4 f) 28)).alloc (.cells (kkq 5 c) 48)):=((Below.refl _ w).alloc (Nat.le_refl _) _).alloc (by simp) _
 have l03:=ld_crsC kc
 clear h0 h1 h2
 rcases(show(¬c.lim<c.oth)∨(c.lim<c.oth∧ ¬c.oth<(f.li.length:Int))∨(c.lim<c.oth∧c.oth<(f.li.length:Int)) by omega)with x1|⟨x1,x2⟩|⟨x1,x2⟩
 all_goals
  go_enter Tryz.func185,Tryz.ntmps185
  go_wp2_with fail
  refine(ic _).mono ?_
  rintro e w1 ⟨rfl,hx⟩
  clear l03
  replace kf:=kE hx kf;replace kc:=kE hx kc;replace hall:Below w.heap.size w _:=hall.trans (hx.mono hall.size);(try clear l01 l02);have l01:=ld_row kf Tryz.underlying28 rfl info_fld;have l02:=ld_row kc Tryz.underlying48 rfl info_cal;(try clear hcf hff hcc hfc);obtain⟨hcf,hff⟩:=blk_cells kf;obtain⟨hcc,hfc⟩:=blk_cells kc;clear hx
  have l03:=ld_crsC kc
  go_wp2_with fail
  refine(wi1 _).mono ?_
  rintro e w2 ⟨rfl,rfl⟩
  go_wp2_with fail
  go_ret
  exact⟨rfl,hall⟩
set_option maxHeartbeats 4000000 in
theorem tb5_4 (c:Pl.Cal)(w:World)(hS:f.st.length<=100000)(hL:f.li.length<=100000)(h0:Pl.cornB f.st.length f.li.length c.lim c.fr=true)(h1:Pl.inB c.er 0 100000=true)(h2:c.crs.isZ=true)(h3:(c.oth==0)=true)(h4:Pl.inB c.till 0 ((f.st.length:Int)-1)=false):
  Calls Tryz.prog 185 #[.agg (fq A1 A2 A3 A4 c1 c2 c3 c4 f),.agg (kkq 5 c)] w fun e w'=>e=.returned (.bool false)∧Below w.heap.size w w':=by
 have hEq: ∀W,(Op.equalIn 10000 46 (.agg (cq c.crs)) (.agg z6)).run Tryz.prog W=.ok true W:=fun W=>(eq_crsZ c W).trans (by rw[h2])
 have ic:=fun W=>isCorner_b A1 A2 A3 A4 c1 c2 c3 c4 f c.lim c.fr W hL hS
 rw[show(Pl.inB c.lim 0 ((f.li.length:Int)-1)&&Pl.inB c.fr 0 ((f.st.length:Int)-1))=true from h0]at ic
 have wi1:=fun W=>within_b c.er 0 100000 W
 rw[h1]at wi1
 have wi4:=fun W=>within_b c.till 0 ((f.st.length:Int)-1) W
 rw[h4]at wi4
 have kf:=(heap_alloc_new w (.cells (fq A1 A2 A3 A4 c1 c2 c3 c4 f) 28))
 have kc:=(heap_alloc_new (w.alloc (.cells (fq A1 A2 A3 A4 c1 c2 c3 c4 f) 28)) (.cells (kkq 5 c) 48))
 rw[World.size_alloc]at kc
 have kf:=(Below.heap_alloc _ (.cells (kkq 5 c) 48) _ (lO kf)).trans kf
 have l01:=ld_row kf Tryz.underlying28 rfl info_fld
 have l02:=ld_row kc Tryz.underlying48 rfl info_cal
 have hall:Below w.heap.size w ((w.alloc (.cells (fq A1 A2 A3 A4 c1 c2 c3 c4 f) 28)).alloc (.cells (kkq 5 c) 48)):=((Below.refl _ w).alloc (Nat.le_refl _) _).alloc (by simp) _
 have l03:=ld_crsC kc
 clear h0 h1 h2 h4
 rcases(show(¬c.lim<c.oth)∨(c.lim<c.oth∧ ¬c.oth<(f.li.length:Int))∨(c.lim<c.oth∧c.oth<(f.li.length:Int)) by omega)with x1|⟨x1,x2⟩|⟨x1,x2⟩
 all_goals
  go_enter Tryz.func185,Tryz.ntmps185
  go_wp2_with fail
  refine(ic _).mono ?_
  rintro e w1 ⟨rfl,hx⟩
  clear l03
  replace kf:=kE hx kf;replace kc:=kE hx kc;replace hall:Below w.heap.size w _:=hall.trans (hx.mono hall.size);(try clear l01 l02);have l01:=ld_row kf Tryz.underlying28 rfl info_fld;have l02:=ld_row kc Tryz.underlying48 rfl info_cal;(try clear hcf hff hcc hfc);obtain⟨hcf,hff⟩:=blk_cells kf;obtain⟨hcc,hfc⟩:=blk_cells kc;clear hx
  have l03:=ld_crsC kc
  go_wp2_with fail
  refine(wi1 _).mono ?_
  rintro e w2 ⟨rfl,rfl⟩
  go_wp2_with fail
  refine(wi4 _).mono ?_
  rintro e w5 ⟨rfl,rfl⟩
  go_wp2_with fail
  go_ret
  exact⟨rfl,hall⟩
set_option maxHeartbeats 4000000 in
theorem tb5_5 (c:Pl.Cal)(w:World)(hS:f.st.length<=100000)(hL:f.li.length<=100000)(h0:Pl.cornB f.st.length f.li.length c.lim c.fr=true)(h1:Pl.inB c.er 0 100000=true)(h2:c.crs.isZ=true)(h3:(c.oth==0)=true)(h4:Pl.inB c.till 0 ((f.st.length:Int)-1)=true)(h5:(c.till !=c.fr)=false):
  Calls Tryz.prog 185 #[.agg (fq A1 A2 A3 A4 c1 c2 c3 c4 f),.agg (kkq 5 c)] w fun e w'=>e=.returned (.bool false)∧Below w.heap.size w w':=by
 have hEq: ∀W,(Op.equalIn 10000 46 (.agg (cq c.crs)) (.agg z6)).run Tryz.prog W=.ok true W:=fun W=>(eq_crsZ c W).trans (by rw[h2])
 have ic:=fun W=>isCorner_b A1 A2 A3 A4 c1 c2 c3 c4 f c.lim c.fr W hL hS
 rw[show(Pl.inB c.lim 0 ((f.li.length:Int)-1)&&Pl.inB c.fr 0 ((f.st.length:Int)-1))=true from h0]at ic
 have wi1:=fun W=>within_b c.er 0 100000 W
 rw[h1]at wi1
 have wi4:=fun W=>within_b c.till 0 ((f.st.length:Int)-1) W
 rw[h4]at wi4
 have kf:=(heap_alloc_new w (.cells (fq A1 A2 A3 A4 c1 c2 c3 c4 f) 28))
 have kc:=(heap_alloc_new (w.alloc (.cells (fq A1 A2 A3 A4 c1 c2 c3 c4 f) 28)) (.cells (kkq 5 c) 48))
 rw[World.size_alloc]at kc
 have kf:=(Below.heap_alloc _ (.cells (kkq 5 c) 48) _ (lO kf)).trans kf
 have l01:=ld_row kf Tryz.underlying28 rfl info_fld
 have l02:=ld_row kc Tryz.underlying48 rfl info_cal
 have hall:Below w.heap.size w ((w.alloc (.cells (fq A1 A2 A3 A4 c1 c2 c3 c4 f) 28)).alloc (.cells (kkq 5 c) 48)):=((Below.refl _ w).alloc (Nat.le_refl _) _).alloc (by simp) _
 have l03:=ld_crsC kc
 clear h0 h1 h2 h4
 rcases(show(¬c.lim<c.oth)∨(c.lim<c.oth∧ ¬c.oth<(f.li.length:Int))∨(c.lim<c.oth∧c.oth<(f.li.length:Int)) by omega)with x1|⟨x1,x2⟩|⟨x1,x2⟩
 all_goals
  go_enter Tryz.func185,Tryz.ntmps185
  go_wp2_with fail
  refine(ic _).mono ?_
  rintro e w1 ⟨rfl,hx⟩
  clear l03
  replace kf:=kE hx kf;replace kc:=kE hx kc;replace hall:Below w.heap.size w _:=hall.trans (hx.mono hall.size);(try clear l01 l02);have l01:=ld_row kf Tryz.underlying28 rfl info_fld;have l02:=ld_row kc Tryz.underlying48 rfl info_cal;(try clear hcf hff hcc hfc);obtain⟨hcf,hff⟩:=blk_cells kf;obtain⟨hcc,hfc⟩:=blk_cells kc;clear hx
  have l03:=ld_crsC kc
  go_wp2_with fail
  refine(wi1 _).mono ?_
  rintro e w2 ⟨rfl,rfl⟩
  go_wp2_with fail
  refine(wi4 _).mono ?_
  rintro e w5 ⟨rfl,rfl⟩
  go_wp2_with fail
  go_ret
  exact⟨rfl,hall⟩
set_option maxHeartbeats 4000000 in
theorem tb5_6 (c:Pl.Cal)(w:World)(hS:f.st.length<=100000)(hL:f.li.length<=100000)(h0:Pl.cornB f.st.length f.li.length c.lim c.fr=true)(h1:Pl.inB c.er 0 100000=true)(h2:c.crs.isZ=true)(h3:(c.oth==0)=true)(h4:Pl.inB c.till 0 ((f.st.length:Int)-1)=true)(h5:(c.till !=c.fr)=true)(h6:Pl.inB c.size (-100000) 100000=false):
  Calls Tryz.prog 185 #[.agg (fq A1 A2 A3 A4 c1 c2 c3 c4 f),.agg (kkq 5 c)] w fun e w'=>e=.returned (.bool false)∧Below w.heap.size w w':=by
 have hEq: ∀W,(Op.equalIn 10000 46 (.agg (cq c.crs)) (.agg z6)).run Tryz.prog W=.ok true W:=fun W=>(eq_crsZ c W).trans (by rw[h2])
 have ic:=fun W=>isCorner_b A1 A2 A3 A4 c1 c2 c3 c4 f c.lim c.fr W hL hS
 rw[show(Pl.inB c.lim 0 ((f.li.length:Int)-1)&&Pl.inB c.fr 0 ((f.st.length:Int)-1))=true from h0]at ic
 have wi1:=fun W=>within_b c.er 0 100000 W
 rw[h1]at wi1
 have wi4:=fun W=>within_b c.till 0 ((f.st.length:Int)-1) W
 rw[h4]at wi4
 have wi6:=fun W=>within_b c.size (-100000) 100000 W
 rw[h6]at wi6
 have kf:=(heap_alloc_new w (.cells (fq A1 A2 A3 A4 c1 c2 c3 c4 f) 28))
 have kc:=(heap_alloc_new (w.alloc (.cells (fq A1 A2 A3 A4 c1 c2 c3 c4 f) 28)) (.cells (kkq 5 c) 48))
 rw[World.size_alloc]at kc
 have kf:=(Below.heap_alloc _ (.cells (kkq 5 c) 48) _ (lO kf)).trans kf
 have l01:=ld_row kf Tryz.underlying28 rfl info_fld
 have l02:=ld_row kc Tryz.underlying48 rfl info_cal
 have hall:Below w.heap.size w ((w.alloc (.cells (fq A1 A2 A3 A4 c1 c2 c3 c4 f) 28)).alloc (.cells (kkq 5 c) 48)):=((Below.refl _ w).alloc (Nat.le_refl _) _).alloc (by simp) _
 have l03:=ld_crsC kc
 clear h0 h1 h2 h4 h6
 rcases(show(¬c.lim<c.oth)∨(c.lim<c.oth∧ ¬c.oth<(f.li.length:Int))∨(c.lim<c.oth∧c.oth<(f.li.length:Int)) by omega)with x1|⟨x1,x2⟩|⟨x1,x2⟩
 all_goals
  go_enter Tryz.func185,Tryz.ntmps185
  go_wp2_with fail
  refine(ic _).mono ?_
  rintro e w1 ⟨rfl,hx⟩
  clear l03
  replace kf:=kE hx kf;replace kc:=kE hx kc;replace hall:Below w.heap.size w _:=hall.trans (hx.mono hall.size);(try clear l01 l02);have l01:=ld_row kf Tryz.underlying28 rfl info_fld;have l02:=ld_row kc Tryz.underlying48 rfl info_cal;(try clear hcf hff hcc hfc);obtain⟨hcf,hff⟩:=blk_cells kf;obtain⟨hcc,hfc⟩:=blk_cells kc;clear hx
  have l03:=ld_crsC kc
  go_wp2_with fail
  refine(wi1 _).mono ?_
  rintro e w2 ⟨rfl,rfl⟩
  go_wp2_with fail
  refine(wi4 _).mono ?_
  rintro e w5 ⟨rfl,rfl⟩
  go_wp2_with fail
  refine(wi6 _).mono ?_
  rintro e w7 ⟨rfl,rfl⟩
  go_wp2_with fail
  go_ret
  exact⟨rfl,hall⟩
set_option maxHeartbeats 4000000 in
theorem tb5_7 (c:Pl.Cal)(w:World)(hS:f.st.length<=100000)(hL:f.li.length<=100000)(h0:Pl.cornB f.st.length f.li.length c.lim c.fr=true)(h1:Pl.inB c.er 0 100000=true)(h2:c.crs.isZ=true)(h3:(c.oth==0)=true)(h4:Pl.inB c.till 0 ((f.st.length:Int)-1)=true)(h5:(c.till !=c.fr)=true)(h6:Pl.inB c.size (-100000) 100000=true):
  Calls Tryz.prog 185 #[.agg (fq A1 A2 A3 A4 c1 c2 c3 c4 f),.agg (kkq 5 c)] w fun e w'=>e=.returned (.bool true)∧Below w.heap.size w w':=by
 have hEq: ∀W,(Op.equalIn 10000 46 (.agg (cq c.crs)) (.agg z6)).run Tryz.prog W=.ok true W:=fun W=>(eq_crsZ c W).trans (by rw[h2])
 have ic:=fun W=>isCorner_b A1 A2 A3 A4 c1 c2 c3 c4 f c.lim c.fr W hL hS
 rw[show(Pl.inB c.lim 0 ((f.li.length:Int)-1)&&Pl.inB c.fr 0 ((f.st.length:Int)-1))=true from h0]at ic
 have wi1:=fun W=>within_b c.er 0 100000 W
 rw[h1]at wi1
 have wi4:=fun W=>within_b c.till 0 ((f.st.length:Int)-1) W
 rw[h4]at wi4
 have wi6:=fun W=>within_b c.size (-100000) 100000 W
 rw[h6]at wi6
 have kf:=(heap_alloc_new w (.cells (fq A1 A2 A3 A4 c1 c2 c3 c4 f) 28))
 have kc:=(heap_alloc_new (w.alloc (.cells (fq A1 A2 A3 A4 c1 c2 c3 c4 f) 28)) (.cells (kkq 5 c) 48))
 rw[World.size_alloc]at kc
 have kf:=(Below.heap_alloc _ (.cells (kkq 5 c) 48) _ (lO kf)).trans kf
 have l01:=ld_row kf Tryz.underlying28 rfl info_fld
 have l02:=ld_row kc Tryz.underlying48 rfl info_cal
 have hall:Below w.heap.size w ((w.alloc (.cells (fq A1 A2 A3 A4 c1 c2 c3 c4 f) 28)).alloc (.cells (kkq 5 c) 48)):=((Below.refl _ w).alloc (Nat.le_refl _) _).alloc (by simp) _
 have l03:=ld_crsC kc
 clear h0 h1 h2 h4 h6
 rcases(show(¬c.lim<c.oth)∨(c.lim<c.oth∧ ¬c.oth<(f.li.length:Int))∨(c.lim<c.oth∧c.oth<(f.li.length:Int)) by omega)with x1|⟨x1,x2⟩|⟨x1,x2⟩
 all_goals
  go_enter Tryz.func185,Tryz.ntmps185
  go_wp2_with fail
  refine(ic _).mono ?_
  rintro e w1 ⟨rfl,hx⟩
  clear l03
  replace kf:=kE hx kf;replace kc:=kE hx kc;replace hall:Below w.heap.size w _:=hall.trans (hx.mono hall.size);(try clear l01 l02);have l01:=ld_row kf Tryz.underlying28 rfl info_fld;have l02:=ld_row kc Tryz.underlying48 rfl info_cal;(try clear hcf hff hcc hfc);obtain⟨hcf,hff⟩:=blk_cells kf;obtain⟨hcc,hfc⟩:=blk_cells kc;clear hx
  have l03:=ld_crsC kc
  go_wp2_with fail
  refine(wi1 _).mono ?_
  rintro e w2 ⟨rfl,rfl⟩
  go_wp2_with fail
  refine(wi4 _).mono ?_
  rintro e w5 ⟨rfl,rfl⟩
  go_wp2_with fail
  refine(wi6 _).mono ?_
  rintro e w7 ⟨rfl,rfl⟩
  go_wp2_with fail
  go_ret
  exact⟨rfl,hall⟩
end Go.Proofs.YtgbpekeoegfjpaaGreatDoor
namespace Go.Proofs.YtgbpekeoegfjpaaGreatDoor
open Go.RowKit
variable (A1 A2 A3 A4 : Option Addr) (c1 c2 c3 c4 : Nat) (f : Pl.Fld)
theorem table_b (c:Pl.Cal)(w:World)(hS:f.st.length<=100000)(hL:f.li.length<=100000):
  Calls Tryz.prog 185 #[.agg (fq A1 A2 A3 A4 c1 c2 c3 c4 f),.agg (kq c)] w fun e w'=>e=.returned (.bool (Pl.tabR f.st.length f.li.length c))∧Below w.heap.size w w':=by
 unfold Pl.tabR
 cases h0:Pl.cornB f.st.length f.li.length c.lim c.fr with
 |false=>exact tbp_0 A1 A2 A3 A4 c1 c2 c3 c4 f c w hS hL h0
 |true=>
 cases h1:Pl.inB c.er 0 100000 with
 |false=>exact tbp_1 A1 A2 A3 A4 c1 c2 c3 c4 f c w hS hL h0 h1
 |true=>
 rw[Bool.true_and,Bool.true_and]
 by_cases k1:c.kind=1
 ·rw[if_pos k1,show(c.kind:Int)=1 by omega]
  cases h2:c.crs.isZ with
  |false=>exact tb1_2 A1 A2 A3 A4 c1 c2 c3 c4 f c w hS hL h0 h1 h2
  |true=>
  cases h3:(c.oth==0)with
  |false=>exact tb1_3 A1 A2 A3 A4 c1 c2 c3 c4 f c w hS hL h0 h1 h2 h3
  |true=>
  cases h4:(c.till==0)with
  |false=>exact tb1_4 A1 A2 A3 A4 c1 c2 c3 c4 f c w hS hL h0 h1 h2 h3 h4
  |true=>
  cases h5:Pl.inB c.size 0 100000 with
  |false=>exact tb1_5 A1 A2 A3 A4 c1 c2 c3 c4 f c w hS hL h0 h1 h2 h3 h4 h5
  |true=>
  exact tb1_6 A1 A2 A3 A4 c1 c2 c3 c4 f c w hS hL h0 h1 h2 h3 h4 h5
 rw[if_neg k1]
 by_cases k2:c.kind=2
 ·rw[if_pos k2,show(c.kind:Int)=2 by omega]
  cases h2:c.crs.isZ with
  |false=>exact tb2_2 A1 A2 A3 A4 c1 c2 c3 c4 f c w hS hL h0 h1 h2
  |true=>
  cases h3:Pl.othB f.li.length c with
  |false=>exact tb2_3 A1 A2 A3 A4 c1 c2 c3 c4 f c w hS hL h0 h1 h2 h3
  |true=>
  cases h4:(c.till==0)with
  |false=>exact tb2_4 A1 A2 A3 A4 c1 c2 c3 c4 f c w hS hL h0 h1 h2 h3 h4
  |true=>
  cases h5:Pl.inB c.size 0 100000 with
  |false=>exact tb2_5 A1 A2 A3 A4 c1 c2 c3 c4 f c w hS hL h0 h1 h2 h3 h4 h5
  |true=>
  exact tb2_6 A1 A2 A3 A4 c1 c2 c3 c4 f c w hS hL h0 h1 h2 h3 h4 h5
 rw[if_neg k2]
 by_cases k3:c.kind=3
 ·rw[if_pos k3,show(c.kind:Int)=3 by omega]
  cases h2:(c.oth==0)with
  |false=>exact tb3_2 A1 A2 A3 A4 c1 c2 c3 c4 f c w hS hL h0 h1 h2
  |true=>
  cases h3:(c.size==0)with
  |false=>exact tb3_3 A1 A2 A3 A4 c1 c2 c3 c4 f c w hS hL h0 h1 h2 h3
  |true=>
  cases h4:(c.er==0)with
  |false=>exact tb3_4 A1 A2 A3 A4 c1 c2 c3 c4 f c w hS hL h0 h1 h2 h3 h4
  |true=>
  cases h5:Pl.inB c.till 0 ((f.st.length:Int)-1)with
  |false=>exact tb3_5 A1 A2 A3 A4 c1 c2 c3 c4 f c w hS hL h0 h1 h2 h3 h4 h5
  |true=>
  cases h6:(c.till !=c.fr)with
  |false=>exact tb3_6 A1 A2 A3 A4 c1 c2 c3 c4 f c w hS hL h0 h1 h2 h3 h4 h5 h6
  |true=>
  exact tb3_7 A1 A2 A3 A4 c1 c2 c3 c4 f c w hS hL h0 h1 h2 h3 h4 h5 h6
 rw[if_neg k3]
 by_cases k4:c.kind=4
 ·rw[if_pos k4,show(c.kind:Int)=4 by omega]
  cases h2:c.crs.isZ with
  |false=>exact tb4_2 A1 A2 A3 A4 c1 c2 c3 c4 f c w hS hL h0 h1 h2
  |true=>
  cases h3:Pl.othB f.li.length c with
  |false=>exact tb4_3 A1 A2 A3 A4 c1 c2 c3 c4 f c w hS hL h0 h1 h2 h3
  |true=>
  cases h4:(c.size==0)with
  |false=>exact tb4_4 A1 A2 A3 A4 c1 c2 c3 c4 f c w hS hL h0 h1 h2 h3 h4
  |true=>
  cases h5:(c.er==0)with
  |false=>exact tb4_5 A1 A2 A3 A4 c1 c2 c3 c4 f c w hS hL h0 h1 h2 h3 h4 h5
  |true=>
  cases h6:decide (c.fr<c.till)with
  |false=>exact tb4_6 A1 A2 A3 A4 c1 c2 c3 c4 f c w hS hL h0 h1 h2 h3 h4 h5 h6
  |true=>
  cases h7:decide (c.till<(f.st.length:Int))with
  |false=>exact tb4_7 A1 A2 A3 A4 c1 c2 c3 c4 f c w hS hL h0 h1 h2 h3 h4 h5 h6 h7
  |true=>
  exact tb4_8 A1 A2 A3 A4 c1 c2 c3 c4 f c w hS hL h0 h1 h2 h3 h4 h5 h6 h7
 rw[if_neg k4]
 by_cases k5:c.kind=5
 ·rw[if_pos k5,show(c.kind:Int)=5 by omega]
  cases h2:c.crs.isZ with
  |false=>exact tb5_2 A1 A2 A3 A4 c1 c2 c3 c4 f c w hS hL h0 h1 h2
  |true=>
  cases h3:(c.oth==0)with
  |false=>exact tb5_3 A1 A2 A3 A4 c1 c2 c3 c4 f c w hS hL h0 h1 h2 h3
  |true=>
  cases h4:Pl.inB c.till 0 ((f.st.length:Int)-1)with
  |false=>exact tb5_4 A1 A2 A3 A4 c1 c2 c3 c4 f c w hS hL h0 h1 h2 h3 h4
  |true=>
  cases h5:(c.till !=c.fr)with
  |false=>exact tb5_5 A1 A2 A3 A4 c1 c2 c3 c4 f c w hS hL h0 h1 h2 h3 h4 h5
  |true=>
  cases h6:Pl.inB c.size (-100000) 100000 with
  |false=>exact tb5_6 A1 A2 A3 A4 c1 c2 c3 c4 f c w hS hL h0 h1 h2 h3 h4 h5 h6
  |true=>
  exact tb5_7 A1 A2 A3 A4 c1 c2 c3 c4 f c w hS hL h0 h1 h2 h3 h4 h5 h6
 rw[if_neg k5]
 exact tb0_2 A1 A2 A3 A4 c1 c2 c3 c4 f c w hS hL h0 h1 k1 k2 k3 k4 k5
end Go.Proofs.YtgbpekeoegfjpaaGreatDoor
