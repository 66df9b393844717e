/- Texts of mine, merged: EC. -/
import Derived.Test.YtgbpekeoegfjpaaGreatDoorZ07
import Derived.Test.YtgbpekeoegfjpaaGreatDoorZ00
import Derived.Test.YtgbpekeoegfjpaaGreatDoorZ02
/- Walks: the table of kinds; what is wrong with a call, up to its kind. -/
set_option maxRecDepth 100000
namespace Go.Proofs.YtgbpekeoegfjpaaGreatDoor
open Go.RowKit
variable (A1 A2 A3 A4 : Option Addr) (c1 c2 c3 c4 : Nat) (f : Pl.Fld)
attribute [-go_sem] run_equalIn_agg storeVar loadVar
attribute [local go_sem] lv_int lv_bool lv_u8 lv_string lv_vars
def kindsV :Array Value:= #[.string ⟨#[]⟩,.nilFunc,.nilFunc,.string Pl.wStone,.func (.func 211) #[] #[],.func (.func 212) #[] #[],.string Pl.wWidth,.func (.func 213) #[] #[],.func (.func 214) #[] #[],
 .string Pl.wCourse,.func (.func 215) #[] #[],.func (.func 216) #[] #[],.string Pl.wAlong,.func (.func 217) #[] #[],.func (.func 218) #[] #[],.string Pl.wLevel,.func (.func 219) #[] #[],.func (.func 220) #[] #[]]
theorem info_kinds :(Tryz.prog.info? 205).map (·.size)=some 18:=by kernel_rfl
set_option maxHeartbeats 2000000 in
theorem kinds_a (w:World):Calls Tryz.prog 162 #[] w fun e w'=>e=.returned (.agg kindsV)∧Below w.heap.size w w':=by
 have ha:=heap_alloc_new w (.cells #[.string ⟨#[]⟩,.nilFunc,.nilFunc,.string ⟨#[]⟩,.nilFunc,.nilFunc,.string ⟨#[]⟩,.nilFunc,.nilFunc,.string ⟨#[]⟩,.nilFunc,.nilFunc,.string ⟨#[]⟩,.nilFunc,.nilFunc,.string ⟨#[]⟩,.nilFunc,.nilFunc] 205)
 obtain⟨W,hst,hW,hg⟩:=st_row _ w.heap.size _ 205 _ kindsV ha info_kinds rfl (by simp[kindsV,Value.oneCell'])
 have hld:=ld_row hW Tryz.underlying205 rfl info_kinds
 have hB:Below w.heap.size w W:=((Below.refl _ w).alloc (Nat.le_refl _) _).grown hg (by simp) (fun k e=>by cases e;exact Nat.le_refl _)
 unfold kindsV Pl.wStone Pl.wWidth Pl.wCourse Pl.wAlong Pl.wLevel at hst hld
 clear ha hW hg
 go_enter Tryz.func162,Tryz.ntmps162
 go_wp2
 refine bodyPost_ret (v:=.agg kindsV) ?_ rfl ⟨rfl,hB⟩
 unfold kindsV Pl.wStone Pl.wWidth Pl.wCourse Pl.wAlong Pl.wLevel
 simp[results,Tryz.results162,go_sem,hld]
theorem kinds_v (w:World):Calls Tryz.prog 162 #[] w fun e w'=>e=.returned (.agg #[.string ⟨#[]⟩,.nilFunc,.nilFunc,.string ⟨#[115,116,111,110,101]⟩,.func (.func 211) #[] #[],.func (.func 212) #[] #[],.string ⟨#[119,105,100,116,104]⟩,.func (.func 213) #[] #[],.func (.func 214) #[] #[],
 .string ⟨#[99,111,117,114,115,101]⟩,.func (.func 215) #[] #[],.func (.func 216) #[] #[],.string ⟨#[97,108,111,110,103]⟩,.func (.func 217) #[] #[],.func (.func 218) #[] #[],.string ⟨#[108,101,118,101,108]⟩,.func (.func 219) #[] #[],.func (.func 220) #[] #[]])∧Below w.heap.size w w':=kinds_a w
theorem info_call :(Tryz.prog.info? 128).map (·.size)=some 17:=by kernel_rfl
theorem sb_of {k:Int}{c:Pl.Cal}{g:Nat}{W:World}(hb:W.heap[g]?=some (.cells (fkq A1 A2 A3 A4 c1 c2 c3 c4 f k c) 128 (0,0))):(loadVar 5 ⟨g,4,none⟩).run Tryz.prog W=.ok (.int .u8 k) W∧(loadVar 128 ⟨g,0,none⟩).run Tryz.prog W=.ok (.agg (fkq A1 A2 A3 A4 c1 c2 c3 c4 f k c)) W:=by
 refine⟨?_,CBox.whole ⟨hb⟩⟩
 obtain⟨hc,_⟩:=blk_cells hb
 rw[lv_u8]
 simp[go_sem,hc]
set_option maxHeartbeats 4000000 in
theorem check_stone (c:Pl.Cal)(B:Bool)(w:World)(hR: ∀W,Below w.heap.size w W->Calls Tryz.prog 211 #[.agg (fkq A1 A2 A3 A4 c1 c2 c3 c4 f 1 c)] W fun e w'=>e=.returned (.bool B)∧Below W.heap.size W w'):
  Calls Tryz.prog 108 #[.agg (fkq A1 A2 A3 A4 c1 c2 c3 c4 f 1 c)] w fun e w'=>e=.returned (.int .i64 (if B then 0 else 1))∧Below w.heap.size w w':=by
 have kb:=heap_alloc_new w (.cells (fkq A1 A2 A3 A4 c1 c2 c3 c4 f 1 c) 128)
 have hall:Below w.heap.size w (w.alloc (.cells (fkq A1 A2 A3 A4 c1 c2 c3 c4 f 1 c) 128)):=(Below.refl _ w).alloc (Nat.le_refl _) _
 have hu:=Tryz.underlying128
 have hi:=info_call
 have hix: ∀W,(Instr.index 205 (.agg #[.string ⟨#[]⟩,.nilFunc,.nilFunc,.string ⟨#[115,116,111,110,101]⟩,.func (.func 211) #[] #[],.func (.func 212) #[] #[],.string ⟨#[119,105,100,116,104]⟩,.func (.func 213) #[] #[],.func (.func 214) #[] #[],.string ⟨#[99,111,117,114,115,101]⟩,.func (.func 215) #[] #[],.func (.func 216) #[] #[],.string ⟨#[97,108,111,110,103]⟩,.func (.func 217) #[] #[],.func (.func 218) #[] #[],.string ⟨#[108,101,118,101,108]⟩,.func (.func 219) #[] #[],.func (.func 220) #[] #[]]) (.int .u8 1)).run Tryz.prog W=.ok (.agg #[.string ⟨#[115,116,111,110,101]⟩,.func (.func 211) #[] #[],.func (.func 212) #[] #[]]) W:=fun _=>by kernel_rfl
 have hfx: ∀W,(Instr.field 204 (.agg #[.string ⟨#[115,116,111,110,101]⟩,.func (.func 211) #[] #[],.func (.func 212) #[] #[]]) 1).run Tryz.prog W=.ok (.func (.func 211) #[] #[]) W:=fun _=>by kernel_rfl
 go_enter Tryz.func108,Tryz.ntmps108
 go_wp2
 generalize w.alloc (.cells (fkq A1 A2 A3 A4 c1 c2 c3 c4 f 1 c) 128)=W0 at*
 go_region_held3 (fun W=>(loadVar 5 ⟨w.heap.size,4,none⟩).run Tryz.prog W=.ok (.int .u8 1) W∧(loadVar 128 ⟨w.heap.size,0,none⟩).run Tryz.prog W=.ok (.agg (fkq A1 A2 A3 A4 c1 c2 c3 c4 f 1 c)) W) (first|exact sb_of A1 A2 A3 A4 c1 c2 c3 c4 f kb1|exact sb_of A1 A2 A3 A4 c1 c2 c3 c4 f kb) (first
  |(go_at_call 162;refine(kinds_v _).mono ?_;rintro e w1 ⟨rfl,hx⟩;have kb1:=(hx.block w.heap.size (by first|exact(lO kb1)|exact(lO kb))).trans (by first|exact kb1|exact kb);have hall1:Below w.heap.size w w1:=(by first|exact hall1.trans (hx.mono hall1.size)|exact hall.drew.trans (hx.mono hall.size));clear hx)
  |(go_at_call 84;refine(inD_a _ _ _ _).mono ?_;rintro e w' ⟨rfl,rfl⟩)
  |(go_at_call 211;refine(hR _ hall1).mono ?_;rintro e w2 ⟨rfl,hx⟩;have kb1:=(hx.block w.heap.size (lO kb1)).trans kb1;have hall1:Below w.heap.size w w2:=hall1.trans (hx.mono hall1.size);clear hx))
 all_goals cases B with
  |true=>
   obtain⟨hck,hfk⟩:=blk_cells kb1
   go_wp2
   go_ret
   exact⟨rfl,hall1⟩
  |false=>
   go_wp2
   go_ret
   exact⟨rfl,hall1⟩
set_option maxHeartbeats 4000000 in
theorem check_width (c:Pl.Cal)(B:Bool)(w:World)(hR: ∀W,Below w.heap.size w W->Calls Tryz.prog 213 #[.agg (fkq A1 A2 A3 A4 c1 c2 c3 c4 f 2 c)] W fun e w'=>e=.returned (.bool B)∧Below W.heap.size W w'):
  Calls Tryz.prog 108 #[.agg (fkq A1 A2 A3 A4 c1 c2 c3 c4 f 2 c)] w fun e w'=>e=.returned (.int .i64 (if B then 0 else 1))∧Below w.heap.size w w':=by
 have kb:=heap_alloc_new w (.cells (fkq A1 A2 A3 A4 c1 c2 c3 c4 f 2 c) 128)
 have hall:Below w.heap.size w (w.alloc (.cells (fkq A1 A2 A3 A4 c1 c2 c3 c4 f 2 c) 128)):=(Below.refl _ w).alloc (Nat.le_refl _) _
 have hu:=Tryz.underlying128
 have hi:=info_call
 have hix: ∀W,(Instr.index 205 (.agg #[.string ⟨#[]⟩,.nilFunc,.nilFunc,.string ⟨#[115,116,111,110,101]⟩,.func (.func 211) #[] #[],.func (.func 212) #[] #[],.string ⟨#[119,105,100,116,104]⟩,.func (.func 213) #[] #[],.func (.func 214) #[] #[],.string ⟨#[99,111,117,114,115,101]⟩,.func (.func 215) #[] #[],.func (.func 216) #[] #[],.string ⟨#[97,108,111,110,103]⟩,.func (.func 217) #[] #[],.func (.func 218) #[] #[],.string ⟨#[108,101,118,101,108]⟩,.func (.func 219) #[] #[],.func (.func 220) #[] #[]]) (.int .u8 2)).run Tryz.prog W=.ok (.agg #[.string ⟨#[119,105,100,116,104]⟩,.func (.func 213) #[] #[],.func (.func 214) #[] #[]]) W:=fun _=>by kernel_rfl
 have hfx: ∀W,(Instr.field 204 (.agg #[.string ⟨#[119,105,100,116,104]⟩,.func (.func 213) #[] #[],.func (.func 214) #[] #[]]) 1).run Tryz.prog W=.ok (.func (.func 213) #[] #[]) W:=fun _=>by kernel_rfl
 go_enter Tryz.func108,Tryz.ntmps108
 go_wp2
 generalize w.alloc (.cells (fkq A1 A2 A3 A4 c1 c2 c3 c4 f 2 c) 128)=W0 at*
 go_region_held3 (fun W=>(loadVar 5 ⟨w.heap.size,4,none⟩).run Tryz.prog W=.ok (.int .u8 2) W∧(loadVar 128 ⟨w.heap.size,0,none⟩).run Tryz.prog W=.ok (.agg (fkq A1 A2 A3 A4 c1 c2 c3 c4 f 2 c)) W) (first|exact sb_of A1 A2 A3 A4 c1 c2 c3 c4 f kb1|exact sb_of A1 A2 A3 A4 c1 c2 c3 c4 f kb) (first
  |(go_at_call 162;refine(kinds_v _).mono ?_;rintro e w1 ⟨rfl,hx⟩;have kb1:=(hx.block w.heap.size (by first|exact(lO kb1)|exact(lO kb))).trans (by first|exact kb1|exact kb);have hall1:Below w.heap.size w w1:=(by first|exact hall1.trans (hx.mono hall1.size)|exact hall.drew.trans (hx.mono hall.size));clear hx)
  |(go_at_call 84;refine(inD_a _ _ _ _).mono ?_;rintro e w' ⟨rfl,rfl⟩)
  |(go_at_call 213;refine(hR _ hall1).mono ?_;rintro e w2 ⟨rfl,hx⟩;have kb1:=(hx.block w.heap.size (lO kb1)).trans kb1;have hall1:Below w.heap.size w w2:=hall1.trans (hx.mono hall1.size);clear hx))
 all_goals cases B with
  |true=>
   obtain⟨hck,hfk⟩:=blk_cells kb1
   go_wp2
   go_ret
   exact⟨rfl,hall1⟩
  |false=>
   go_wp2
   go_ret
   exact⟨rfl,hall1⟩
set_option maxHeartbeats 4000000 in
theorem check_course (c:Pl.Cal)(B:Bool)(w:World)(hR: ∀W,Below w.heap.size w W->Calls Tryz.prog 215 #[.agg (fkq A1 A2 A3 A4 c1 c2 c3 c4 f 3 c)] W fun e w'=>e=.returned (.bool B)∧Below W.heap.size W w')(hB:B=false):
  Calls Tryz.prog 108 #[.agg (fkq A1 A2 A3 A4 c1 c2 c3 c4 f 3 c)] w fun e w'=>e=.returned (.int .i64 (if B then 0 else 1))∧Below w.heap.size w w':=by
 have kb:=heap_alloc_new w (.cells (fkq A1 A2 A3 A4 c1 c2 c3 c4 f 3 c) 128)
 have hall:Below w.heap.size w (w.alloc (.cells (fkq A1 A2 A3 A4 c1 c2 c3 c4 f 3 c) 128)):=(Below.refl _ w).alloc (Nat.le_refl _) _
 have hu:=Tryz.underlying128
 have hi:=info_call
 have hix: ∀W,(Instr.index 205 (.agg #[.string ⟨#[]⟩,.nilFunc,.nilFunc,.string ⟨#[115,116,111,110,101]⟩,.func (.func 211) #[] #[],.func (.func 212) #[] #[],.string ⟨#[119,105,100,116,104]⟩,.func (.func 213) #[] #[],.func (.func 214) #[] #[],.string ⟨#[99,111,117,114,115,101]⟩,.func (.func 215) #[] #[],.func (.func 216) #[] #[],.string ⟨#[97,108,111,110,103]⟩,.func (.func 217) #[] #[],.func (.func 218) #[] #[],.string ⟨#[108,101,118,101,108]⟩,.func (.func 219) #[] #[],.func (.func 220) #[] #[]]) (.int .u8 3)).run Tryz.prog W=.ok (.agg #[.string ⟨#[99,111,117,114,115,101]⟩,.func (.func 215) #[] #[],.func (.func 216) #[] #[]]) W:=fun _=>by kernel_rfl
 have hfx: ∀W,(Instr.field 204 (.agg #[.string ⟨#[99,111,117,114,115,101]⟩,.func (.func 215) #[] #[],.func (.func 216) #[] #[]]) 1).run Tryz.prog W=.ok (.func (.func 215) #[] #[]) W:=fun _=>by kernel_rfl
 go_enter Tryz.func108,Tryz.ntmps108
 go_wp2
 generalize w.alloc (.cells (fkq A1 A2 A3 A4 c1 c2 c3 c4 f 3 c) 128)=W0 at*
 go_region_held3 (fun W=>(loadVar 5 ⟨w.heap.size,4,none⟩).run Tryz.prog W=.ok (.int .u8 3) W∧(loadVar 128 ⟨w.heap.size,0,none⟩).run Tryz.prog W=.ok (.agg (fkq A1 A2 A3 A4 c1 c2 c3 c4 f 3 c)) W) (first|exact sb_of A1 A2 A3 A4 c1 c2 c3 c4 f kb1|exact sb_of A1 A2 A3 A4 c1 c2 c3 c4 f kb) (first
  |(go_at_call 162;refine(kinds_v _).mono ?_;rintro e w1 ⟨rfl,hx⟩;have kb1:=(hx.block w.heap.size (by first|exact(lO kb1)|exact(lO kb))).trans (by first|exact kb1|exact kb);have hall1:Below w.heap.size w w1:=(by first|exact hall1.trans (hx.mono hall1.size)|exact hall.drew.trans (hx.mono hall.size));clear hx)
  |(go_at_call 84;refine(inD_a _ _ _ _).mono ?_;rintro e w' ⟨rfl,rfl⟩)
  |(go_at_call 215;refine(hR _ hall1).mono ?_;rintro e w2 ⟨rfl,hx⟩;have kb1:=(hx.block w.heap.size (lO kb1)).trans kb1;have hall1:Below w.heap.size w w2:=hall1.trans (hx.mono hall1.size);clear hx))
 all_goals subst hB
 all_goals go_wp2
 all_goals go_ret
 all_goals exact⟨rfl,hall1⟩
set_option maxHeartbeats 4000000 in
theorem check_along (c:Pl.Cal)(B:Bool)(w:World)(hR: ∀W,Below w.heap.size w W->Calls Tryz.prog 217 #[.agg (fkq A1 A2 A3 A4 c1 c2 c3 c4 f 4 c)] W fun e w'=>e=.returned (.bool B)∧Below W.heap.size W w'):
  Calls Tryz.prog 108 #[.agg (fkq A1 A2 A3 A4 c1 c2 c3 c4 f 4 c)] w fun e w'=>e=.returned (.int .i64 (if B then 0 else 1))∧Below w.heap.size w w':=by
 have kb:=heap_alloc_new w (.cells (fkq A1 A2 A3 A4 c1 c2 c3 c4 f 4 c) 128)
 have hall:Below w.heap.size w (w.alloc (.cells (fkq A1 A2 A3 A4 c1 c2 c3 c4 f 4 c) 128)):=(Below.refl _ w).alloc (Nat.le_refl _) _
 have hu:=Tryz.underlying128
 have hi:=info_call
 have hix: ∀W,(Instr.index 205 (.agg #[.string ⟨#[]⟩,.nilFunc,.nilFunc,.string ⟨#[115,116,111,110,101]⟩,.func (.func 211) #[] #[],.func (.func 212) #[] #[],.string ⟨#[119,105,100,116,104]⟩,.func (.func 213) #[] #[],.func (.func 214) #[] #[],.string ⟨#[99,111,117,114,115,101]⟩,.func (.func 215) #[] #[],.func (.func 216) #[] #[],.string ⟨#[97,108,111,110,103]⟩,.func (.func 217) #[] #[],.func (.func 218) #[] #[],.string ⟨#[108,101,118,101,108]⟩,.func (.func 219) #[] #[],.func (.func 220) #[] #[]]) (.int .u8 4)).run Tryz.prog W=.ok (.agg #[.string ⟨#[97,108,111,110,103]⟩,.func (.func 217) #[] #[],.func (.func 218) #[] #[]]) W:=fun _=>by kernel_rfl
 have hfx: ∀W,(Instr.field 204 (.agg #[.string ⟨#[97,108,111,110,103]⟩,.func (.func 217) #[] #[],.func (.func 218) #[] #[]]) 1).run Tryz.prog W=.ok (.func (.func 217) #[] #[]) W:=fun _=>by kernel_rfl
 go_enter Tryz.func108,Tryz.ntmps108
 go_wp2
 generalize w.alloc (.cells (fkq A1 A2 A3 A4 c1 c2 c3 c4 f 4 c) 128)=W0 at*
 go_region_held3 (fun W=>(loadVar 5 ⟨w.heap.size,4,none⟩).run Tryz.prog W=.ok (.int .u8 4) W∧(loadVar 128 ⟨w.heap.size,0,none⟩).run Tryz.prog W=.ok (.agg (fkq A1 A2 A3 A4 c1 c2 c3 c4 f 4 c)) W) (first|exact sb_of A1 A2 A3 A4 c1 c2 c3 c4 f kb1|exact sb_of A1 A2 A3 A4 c1 c2 c3 c4 f kb) (first
  |(go_at_call 162;refine(kinds_v _).mono ?_;rintro e w1 ⟨rfl,hx⟩;have kb1:=(hx.block w.heap.size (by first|exact(lO kb1)|exact(lO kb))).trans (by first|exact kb1|exact kb);have hall1:Below w.heap.size w w1:=(by first|exact hall1.trans (hx.mono hall1.size)|exact hall.drew.trans (hx.mono hall.size));clear hx)
  |(go_at_call 84;refine(inD_a _ _ _ _).mono ?_;rintro e w' ⟨rfl,rfl⟩)
  |(go_at_call 217;refine(hR _ hall1).mono ?_;rintro e w2 ⟨rfl,hx⟩;have kb1:=(hx.block w.heap.size (lO kb1)).trans kb1;have hall1:Below w.heap.size w w2:=hall1.trans (hx.mono hall1.size);clear hx))
 all_goals cases B with
  |true=>
   obtain⟨hck,hfk⟩:=blk_cells kb1
   go_wp2
   go_ret
   exact⟨rfl,hall1⟩
  |false=>
   go_wp2
   go_ret
   exact⟨rfl,hall1⟩
set_option maxHeartbeats 4000000 in
theorem check_level (c:Pl.Cal)(B:Bool)(w:World)(hR: ∀W,Below w.heap.size w W->Calls Tryz.prog 219 #[.agg (fkq A1 A2 A3 A4 c1 c2 c3 c4 f 5 c)] W fun e w'=>e=.returned (.bool B)∧Below W.heap.size W w'):
  Calls Tryz.prog 108 #[.agg (fkq A1 A2 A3 A4 c1 c2 c3 c4 f 5 c)] w fun e w'=>e=.returned (.int .i64 (if B then 0 else 1))∧Below w.heap.size w w':=by
 have kb:=heap_alloc_new w (.cells (fkq A1 A2 A3 A4 c1 c2 c3 c4 f 5 c) 128)
 have hall:Below w.heap.size w (w.alloc (.cells (fkq A1 A2 A3 A4 c1 c2 c3 c4 f 5 c) 128)):=(Below.refl _ w).alloc (Nat.le_refl _) _
 have hu:=Tryz.underlying128
 have hi:=info_call
 have hix: ∀W,(Instr.index 205 (.agg #[.string ⟨#[]⟩,.nilFunc,.nilFunc,.string ⟨#[115,116,111,110,101]⟩,.func (.func 211) #[] #[],.func (.func 212) #[] #[],.string ⟨#[119,105,100,116,104]⟩,.func (.func 213) #[] #[],.func (.func 214) #[] #[],.string ⟨#[99,111,117,114,115,101]⟩,.func (.func 215) #[] #[],.func (.func 216) #[] #[],.string ⟨#[97,108,111,110,103]⟩,.func (.func 217) #[] #[],.func (.func 218) #[] #[],.string ⟨#[108,101,118,101,108]⟩,.func (.func 219) #[] #[],.func (.func 220) #[] #[]]) (.int .u8 5)).run Tryz.prog W=.ok (.agg #[.string ⟨#[108,101,118,101,108]⟩,.func (.func 219) #[] #[],.func (.func 220) #[] #[]]) W:=fun _=>by kernel_rfl
 have hfx: ∀W,(Instr.field 204 (.agg #[.string ⟨#[108,101,118,101,108]⟩,.func (.func 219) #[] #[],.func (.func 220) #[] #[]]) 1).run Tryz.prog W=.ok (.func (.func 219) #[] #[]) W:=fun _=>by kernel_rfl
 go_enter Tryz.func108,Tryz.ntmps108
 go_wp2
 generalize w.alloc (.cells (fkq A1 A2 A3 A4 c1 c2 c3 c4 f 5 c) 128)=W0 at*
 go_region_held3 (fun W=>(loadVar 5 ⟨w.heap.size,4,none⟩).run Tryz.prog W=.ok (.int .u8 5) W∧(loadVar 128 ⟨w.heap.size,0,none⟩).run Tryz.prog W=.ok (.agg (fkq A1 A2 A3 A4 c1 c2 c3 c4 f 5 c)) W) (first|exact sb_of A1 A2 A3 A4 c1 c2 c3 c4 f kb1|exact sb_of A1 A2 A3 A4 c1 c2 c3 c4 f kb) (first
  |(go_at_call 162;refine(kinds_v _).mono ?_;rintro e w1 ⟨rfl,hx⟩;have kb1:=(hx.block w.heap.size (by first|exact(lO kb1)|exact(lO kb))).trans (by first|exact kb1|exact kb);have hall1:Below w.heap.size w w1:=(by first|exact hall1.trans (hx.mono hall1.size)|exact hall.drew.trans (hx.mono hall.size));clear hx)
  |(go_at_call 84;refine(inD_a _ _ _ _).mono ?_;rintro e w' ⟨rfl,rfl⟩)
  |(go_at_call 219;refine(hR _ hall1).mono ?_;rintro e w2 ⟨rfl,hx⟩;have kb1:=(hx.block w.heap.size (lO kb1)).trans kb1;have hall1:Below w.heap.size w w2:=hall1.trans (hx.mono hall1.size);clear hx))
 all_goals cases B with
  |true=>
   obtain⟨hck,hfk⟩:=blk_cells kb1
   go_wp2
   go_ret
   exact⟨rfl,hall1⟩
  |false=>
   go_wp2
   go_ret
   exact⟨rfl,hall1⟩
end Go.Proofs.YtgbpekeoegfjpaaGreatDoor
