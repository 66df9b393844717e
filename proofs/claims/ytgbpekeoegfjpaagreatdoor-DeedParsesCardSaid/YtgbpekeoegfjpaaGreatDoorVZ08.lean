/- Proved: parts of the walk. -/
import Derived.Test.YtgbpekeoegfjpaaGreatDoorVZ06
set_option maxRecDepth 100000
set_option maxHeartbeats 4000000
namespace Go.Proofs
open Tryz RowKit
variable (A1 A2 A3 A4 : Option Addr) (c1 c2 c3 c4 : Nat) (f : Pl.aL)
attribute [-go_sem] run_equalIn_agg storeVar loadVar
attribute [local go_sem] bZ bH dU aT eB
def tZ :Array Value:= #[.string ⟨#[]⟩,.nilFunc,.nilFunc,.string Pl.bq,.func (.func 211) #[] #[],.func (.func 212) #[] #[],.string Pl.bA,.func (.func 213) #[] #[],.func (.func 214) #[] #[],
 .string Pl.aV,.func (.func 215) #[] #[],.func (.func 216) #[] #[],.string Pl.bC,.func (.func 217) #[] #[],.func (.func 218) #[] #[],.string Pl.bg,.func (.func 219) #[] #[],.func (.func 220) #[] #[]]
theorem wY :(prog.info? 205).map (·.size)=some 18:=by kernel_rfl
theorem OB (w:World):Calls prog 162 #[] w fun e w'=>e=.returned (.agg tZ)∧Below w.heap.size w w':=by
 have ha:=heap_alloc_new w (.cells #[.string ⟨#[]⟩,.nilFunc,.nilFunc,.string ⟨#[]⟩,.nilFunc,.nilFunc,.string ⟨#[]⟩,.nilFunc,.nilFunc,.string ⟨#[]⟩,.nilFunc,.nilFunc,.string ⟨#[]⟩,.nilFunc,.nilFunc,.string ⟨#[]⟩,.nilFunc,.nilFunc] 205)
 obtain⟨W,hst,hW,hg⟩:=aG _ w.heap.size _ 205 _ tZ ha wY rfl (by simp[tZ,Value.oneCell'])
 have hld:=ak hW underlying205 rfl wY
 have hB:Below w.heap.size w W:=((Below.refl _ w).alloc (Nat.le_refl _) _).grown hg (by simp) (fun k e=>by cases e;exact Nat.le_refl _)
 unfold tZ Pl.bq Pl.bA Pl.aV Pl.bC Pl.bg at hst hld
 clear ha hW hg
 go_enter func162,ntmps162
 go_wp2
 refine bodyPost_ret (v:=.agg tZ) ?_ rfl ⟨rfl,hB⟩
 unfold tZ Pl.bq Pl.bA Pl.aV Pl.bC Pl.bg
 simp[results,results162,go_sem,hld]
theorem fH (w:World):Calls prog 162 #[] w fun e w'=>e=.returned (.agg #[.string ⟨#[]⟩,.nilFunc,.nilFunc,.string ⟨#[115,116,111,110,101]⟩,.func (.func 211) #[] #[],.func (.func 212) #[] #[],.string ⟨#[119,105,100,116,104]⟩,.func (.func 213) #[] #[],.func (.func 214) #[] #[],
 .string ⟨#[99,111,117,114,115,101]⟩,.func (.func 215) #[] #[],.func (.func 216) #[] #[],.string ⟨#[97,108,111,110,103]⟩,.func (.func 217) #[] #[],.func (.func 218) #[] #[],.string ⟨#[108,101,118,101,108]⟩,.func (.func 219) #[] #[],.func (.func 220) #[] #[]])∧Below w.heap.size w w':=OB w
theorem kU :(prog.info? 128).map (·.size)=some 17:=by kernel_rfl
theorem mV {k:Int}{c:Pl.aZ}{g:Nat}{W:World}(hb:W.heap[g]?=some (.cells (bG A1 A2 A3 A4 c1 c2 c3 c4 f k c) 128 (0,0))):(loadVar 5 ⟨g,4,none⟩).run prog W=.ok (.int .u8 k) W∧(loadVar 128 ⟨g,0,none⟩).run prog W=.ok (.agg (bG A1 A2 A3 A4 c1 c2 c3 c4 f k c)) W:=by
 refine⟨?_,ay.whole ⟨hb⟩⟩
 obtain⟨hc,_⟩:=ah hb
 rw[dU]
 simp[go_sem,hc]
theorem Db (c:Pl.aZ)(B:Bool)(w:World)(hR: ∀W,Below w.heap.size w W->Calls prog 211 #[.agg (bG A1 A2 A3 A4 c1 c2 c3 c4 f 1 c)] W fun e w'=>e=.returned (.bool B)∧Below W.heap.size W w'):
  Calls prog 108 #[.agg (bG A1 A2 A3 A4 c1 c2 c3 c4 f 1 c)] w fun e w'=>e=.returned (.int .i64 (if B then 0 else 1))∧Below w.heap.size w w':=by
 have kb:=heap_alloc_new w (.cells (bG A1 A2 A3 A4 c1 c2 c3 c4 f 1 c) 128)
 have hall:Below w.heap.size w (w.alloc (.cells (bG A1 A2 A3 A4 c1 c2 c3 c4 f 1 c) 128)):=(Below.refl _ w).alloc (Nat.le_refl _) _
 have hu:=underlying128
 have hi:=kU
 have hix: ∀W,(Instr.index 205 (.agg #[.string ⟨#[]⟩,.nilFunc,.nilFunc,.string ⟨#[115,116,111,110,101]⟩,.func (.func 211) #[] #[],.func (.func 212) #[] #[],.string ⟨#[119,105,100,116,104]⟩,.func (.func 213) #[] #[],.func (.func 214) #[] #[],.string ⟨#[99,111,117,114,115,101]⟩,.func (.func 215) #[] #[],.func (.func 216) #[] #[],.string ⟨#[97,108,111,110,103]⟩,.func (.func 217) #[] #[],.func (.func 218) #[] #[],.string ⟨#[108,101,118,101,108]⟩,.func (.func 219) #[] #[],.func (.func 220) #[] #[]]) (.int .u8 1)).run prog W=.ok (.agg #[.string ⟨#[115,116,111,110,101]⟩,.func (.func 211) #[] #[],.func (.func 212) #[] #[]]) W:=fun _=>by kernel_rfl
 have hfx: ∀W,(Instr.field 204 (.agg #[.string ⟨#[115,116,111,110,101]⟩,.func (.func 211) #[] #[],.func (.func 212) #[] #[]]) 1).run prog W=.ok (.func (.func 211) #[] #[]) W:=fun _=>by kernel_rfl
 go_enter func108,ntmps108
 go_wp2
 generalize w.alloc (.cells (bG A1 A2 A3 A4 c1 c2 c3 c4 f 1 c) 128)=W0 at*
 go_region_held3 (fun W=>(loadVar 5 ⟨w.heap.size,4,none⟩).run prog W=.ok (.int .u8 1) W∧(loadVar 128 ⟨w.heap.size,0,none⟩).run prog W=.ok (.agg (bG A1 A2 A3 A4 c1 c2 c3 c4 f 1 c)) W) (first|exact mV A1 A2 A3 A4 c1 c2 c3 c4 f dZ|exact mV A1 A2 A3 A4 c1 c2 c3 c4 f kb) (first
  |(go_at_call 162;refine(fH _).mono ?_;rintro e w1 ⟨rfl,hx⟩;have dZ:=(hx.block w.heap.size (by first|exact(lO dZ)|exact(lO kb))).trans (by first|exact dZ|exact kb);have aK:Below w.heap.size w w1:=(by first|exact aK.trans (hx.mono aK.size)|exact hall.drew.trans (hx.mono hall.size));clear hx)
  |(go_at_call 84;refine(dP _ _ _ _).mono ?_;rintro e w' ⟨rfl,rfl⟩)
  |(go_at_call 211;refine(hR _ aK).mono ?_;rintro e w2 ⟨rfl,hx⟩;have dZ:=(hx.block w.heap.size (lO dZ)).trans dZ;have aK:Below w.heap.size w w2:=aK.trans (hx.mono aK.size);clear hx))
 all_goals cases B with
  |true=>
   obtain⟨hck,SS⟩:=ah dZ
   go_wp2
   go_ret
   exact⟨rfl,aK⟩
  |false=>
   go_wp2
   go_ret
   exact⟨rfl,aK⟩
theorem Dc (c:Pl.aZ)(B:Bool)(w:World)(hR: ∀W,Below w.heap.size w W->Calls prog 213 #[.agg (bG A1 A2 A3 A4 c1 c2 c3 c4 f 2 c)] W fun e w'=>e=.returned (.bool B)∧Below W.heap.size W w'):
  Calls prog 108 #[.agg (bG A1 A2 A3 A4 c1 c2 c3 c4 f 2 c)] w fun e w'=>e=.returned (.int .i64 (if B then 0 else 1))∧Below w.heap.size w w':=by
 have kb:=heap_alloc_new w (.cells (bG A1 A2 A3 A4 c1 c2 c3 c4 f 2 c) 128)
 have hall:Below w.heap.size w (w.alloc (.cells (bG A1 A2 A3 A4 c1 c2 c3 c4 f 2 c) 128)):=(Below.refl _ w).alloc (Nat.le_refl _) _
 have hu:=underlying128
 have hi:=kU
 have hix: ∀W,(Instr.index 205 (.agg #[.string ⟨#[]⟩,.nilFunc,.nilFunc,.string ⟨#[115,116,111,110,101]⟩,.func (.func 211) #[] #[],.func (.func 212) #[] #[],.string ⟨#[119,105,100,116,104]⟩,.func (.func 213) #[] #[],.func (.func 214) #[] #[],.string ⟨#[99,111,117,114,115,101]⟩,.func (.func 215) #[] #[],.func (.func 216) #[] #[],.string ⟨#[97,108,111,110,103]⟩,.func (.func 217) #[] #[],.func (.func 218) #[] #[],.string ⟨#[108,101,118,101,108]⟩,.func (.func 219) #[] #[],.func (.func 220) #[] #[]]) (.int .u8 2)).run prog W=.ok (.agg #[.string ⟨#[119,105,100,116,104]⟩,.func (.func 213) #[] #[],.func (.func 214) #[] #[]]) W:=fun _=>by kernel_rfl
 have hfx: ∀W,(Instr.field 204 (.agg #[.string ⟨#[119,105,100,116,104]⟩,.func (.func 213) #[] #[],.func (.func 214) #[] #[]]) 1).run prog W=.ok (.func (.func 213) #[] #[]) W:=fun _=>by kernel_rfl
 go_enter func108,ntmps108
 go_wp2
 generalize w.alloc (.cells (bG A1 A2 A3 A4 c1 c2 c3 c4 f 2 c) 128)=W0 at*
 go_region_held3 (fun W=>(loadVar 5 ⟨w.heap.size,4,none⟩).run prog W=.ok (.int .u8 2) W∧(loadVar 128 ⟨w.heap.size,0,none⟩).run prog W=.ok (.agg (bG A1 A2 A3 A4 c1 c2 c3 c4 f 2 c)) W) (first|exact mV A1 A2 A3 A4 c1 c2 c3 c4 f dZ|exact mV A1 A2 A3 A4 c1 c2 c3 c4 f kb) (first
  |(go_at_call 162;refine(fH _).mono ?_;rintro e w1 ⟨rfl,hx⟩;have dZ:=(hx.block w.heap.size (by first|exact(lO dZ)|exact(lO kb))).trans (by first|exact dZ|exact kb);have aK:Below w.heap.size w w1:=(by first|exact aK.trans (hx.mono aK.size)|exact hall.drew.trans (hx.mono hall.size));clear hx)
  |(go_at_call 84;refine(dP _ _ _ _).mono ?_;rintro e w' ⟨rfl,rfl⟩)
  |(go_at_call 213;refine(hR _ aK).mono ?_;rintro e w2 ⟨rfl,hx⟩;have dZ:=(hx.block w.heap.size (lO dZ)).trans dZ;have aK:Below w.heap.size w w2:=aK.trans (hx.mono aK.size);clear hx))
 all_goals cases B with
  |true=>
   obtain⟨hck,SS⟩:=ah dZ
   go_wp2
   go_ret
   exact⟨rfl,aK⟩
  |false=>
   go_wp2
   go_ret
   exact⟨rfl,aK⟩
theorem Bf (c:Pl.aZ)(B:Bool)(w:World)(hR: ∀W,Below w.heap.size w W->Calls prog 215 #[.agg (bG A1 A2 A3 A4 c1 c2 c3 c4 f 3 c)] W fun e w'=>e=.returned (.bool B)∧Below W.heap.size W w')(hB:B=false):
  Calls prog 108 #[.agg (bG A1 A2 A3 A4 c1 c2 c3 c4 f 3 c)] w fun e w'=>e=.returned (.int .i64 (if B then 0 else 1))∧Below w.heap.size w w':=by
 have kb:=heap_alloc_new w (.cells (bG A1 A2 A3 A4 c1 c2 c3 c4 f 3 c) 128)
 have hall:Below w.heap.size w (w.alloc (.cells (bG A1 A2 A3 A4 c1 c2 c3 c4 f 3 c) 128)):=(Below.refl _ w).alloc (Nat.le_refl _) _
 have hu:=underlying128
 have hi:=kU
 have hix: ∀W,(Instr.index 205 (.agg #[.string ⟨#[]⟩,.nilFunc,.nilFunc,.string ⟨#[115,116,111,110,101]⟩,.func (.func 211) #[] #[],.func (.func 212) #[] #[],.string ⟨#[119,105,100,116,104]⟩,.func (.func 213) #[] #[],.func (.func 214) #[] #[],.string ⟨#[99,111,117,114,115,101]⟩,.func (.func 215) #[] #[],.func (.func 216) #[] #[],.string ⟨#[97,108,111,110,103]⟩,.func (.func 217) #[] #[],.func (.func 218) #[] #[],.string ⟨#[108,101,118,101,108]⟩,.func (.func 219) #[] #[],.func (.func 220) #[] #[]]) (.int .u8 3)).run prog W=.ok (.agg #[.string ⟨#[99,111,117,114,115,101]⟩,.func (.func 215) #[] #[],.func (.func 216) #[] #[]]) W:=fun _=>by kernel_rfl
 have hfx: ∀W,(Instr.field 204 (.agg #[.string ⟨#[99,111,117,114,115,101]⟩,.func (.func 215) #[] #[],.func (.func 216) #[] #[]]) 1).run prog W=.ok (.func (.func 215) #[] #[]) W:=fun _=>by kernel_rfl
 go_enter func108,ntmps108
 go_wp2
 generalize w.alloc (.cells (bG A1 A2 A3 A4 c1 c2 c3 c4 f 3 c) 128)=W0 at*
 go_region_held3 (fun W=>(loadVar 5 ⟨w.heap.size,4,none⟩).run prog W=.ok (.int .u8 3) W∧(loadVar 128 ⟨w.heap.size,0,none⟩).run prog W=.ok (.agg (bG A1 A2 A3 A4 c1 c2 c3 c4 f 3 c)) W) (first|exact mV A1 A2 A3 A4 c1 c2 c3 c4 f dZ|exact mV A1 A2 A3 A4 c1 c2 c3 c4 f kb) (first
  |(go_at_call 162;refine(fH _).mono ?_;rintro e w1 ⟨rfl,hx⟩;have dZ:=(hx.block w.heap.size (by first|exact(lO dZ)|exact(lO kb))).trans (by first|exact dZ|exact kb);have aK:Below w.heap.size w w1:=(by first|exact aK.trans (hx.mono aK.size)|exact hall.drew.trans (hx.mono hall.size));clear hx)
  |(go_at_call 84;refine(dP _ _ _ _).mono ?_;rintro e w' ⟨rfl,rfl⟩)
  |(go_at_call 215;refine(hR _ aK).mono ?_;rintro e w2 ⟨rfl,hx⟩;have dZ:=(hx.block w.heap.size (lO dZ)).trans dZ;have aK:Below w.heap.size w w2:=aK.trans (hx.mono aK.size);clear hx))
 all_goals subst hB
 all_goals go_wp2
 all_goals go_ret
 all_goals exact⟨rfl,aK⟩
theorem Df (c:Pl.aZ)(B:Bool)(w:World)(hR: ∀W,Below w.heap.size w W->Calls prog 217 #[.agg (bG A1 A2 A3 A4 c1 c2 c3 c4 f 4 c)] W fun e w'=>e=.returned (.bool B)∧Below W.heap.size W w'):
  Calls prog 108 #[.agg (bG A1 A2 A3 A4 c1 c2 c3 c4 f 4 c)] w fun e w'=>e=.returned (.int .i64 (if B then 0 else 1))∧Below w.heap.size w w':=by
 have kb:=heap_alloc_new w (.cells (bG A1 A2 A3 A4 c1 c2 c3 c4 f 4 c) 128)
 have hall:Below w.heap.size w (w.alloc (.cells (bG A1 A2 A3 A4 c1 c2 c3 c4 f 4 c) 128)):=(Below.refl _ w).alloc (Nat.le_refl _) _
 have hu:=underlying128
 have hi:=kU
 have hix: ∀W,(Instr.index 205 (.agg #[.string ⟨#[]⟩,.nilFunc,.nilFunc,.string ⟨#[115,116,111,110,101]⟩,.func (.func 211) #[] #[],.func (.func 212) #[] #[],.string ⟨#[119,105,100,116,104]⟩,.func (.func 213) #[] #[],.func (.func 214) #[] #[],.string ⟨#[99,111,117,114,115,101]⟩,.func (.func 215) #[] #[],.func (.func 216) #[] #[],.string ⟨#[97,108,111,110,103]⟩,.func (.func 217) #[] #[],.func (.func 218) #[] #[],.string ⟨#[108,101,118,101,108]⟩,.func (.func 219) #[] #[],.func (.func 220) #[] #[]]) (.int .u8 4)).run prog W=.ok (.agg #[.string ⟨#[97,108,111,110,103]⟩,.func (.func 217) #[] #[],.func (.func 218) #[] #[]]) W:=fun _=>by kernel_rfl
 have hfx: ∀W,(Instr.field 204 (.agg #[.string ⟨#[97,108,111,110,103]⟩,.func (.func 217) #[] #[],.func (.func 218) #[] #[]]) 1).run prog W=.ok (.func (.func 217) #[] #[]) W:=fun _=>by kernel_rfl
 go_enter func108,ntmps108
 go_wp2
 generalize w.alloc (.cells (bG A1 A2 A3 A4 c1 c2 c3 c4 f 4 c) 128)=W0 at*
 go_region_held3 (fun W=>(loadVar 5 ⟨w.heap.size,4,none⟩).run prog W=.ok (.int .u8 4) W∧(loadVar 128 ⟨w.heap.size,0,none⟩).run prog W=.ok (.agg (bG A1 A2 A3 A4 c1 c2 c3 c4 f 4 c)) W) (first|exact mV A1 A2 A3 A4 c1 c2 c3 c4 f dZ|exact mV A1 A2 A3 A4 c1 c2 c3 c4 f kb) (first
  |(go_at_call 162;refine(fH _).mono ?_;rintro e w1 ⟨rfl,hx⟩;have dZ:=(hx.block w.heap.size (by first|exact(lO dZ)|exact(lO kb))).trans (by first|exact dZ|exact kb);have aK:Below w.heap.size w w1:=(by first|exact aK.trans (hx.mono aK.size)|exact hall.drew.trans (hx.mono hall.size));clear hx)
  |(go_at_call 84;refine(dP _ _ _ _).mono ?_;rintro e w' ⟨rfl,rfl⟩)
  |(go_at_call 217;refine(hR _ aK).mono ?_;rintro e w2 ⟨rfl,hx⟩;have dZ:=(hx.block w.heap.size (lO dZ)).trans dZ;have aK:Below w.heap.size w w2:=aK.trans (hx.mono aK.size);clear hx))
 all_goals cases B with
  |true=>
   obtain⟨hck,SS⟩:=ah dZ
   go_wp2
   go_ret
   exact⟨rfl,aK⟩
  |false=>
   go_wp2
   go_ret
   exact⟨rfl,aK⟩
theorem Dg (c:Pl.aZ)(B:Bool)(w:World)(hR: ∀W,Below w.heap.size w W->Calls prog 219 #[.agg (bG A1 A2 A3 A4 c1 c2 c3 c4 f 5 c)] W fun e w'=>e=.returned (.bool B)∧Below W.heap.size W w'):
  Calls prog 108 #[.agg (bG A1 A2 A3 A4 c1 c2 c3 c4 f 5 c)] w fun e w'=>e=.returned (.int .i64 (if B then 0 else 1))∧Below w.heap.size w w':=by
 have kb:=heap_alloc_new w (.cells (bG A1 A2 A3 A4 c1 c2 c3 c4 f 5 c) 128)
 have hall:Below w.heap.size w (w.alloc (.cells (bG A1 A2 A3 A4 c1 c2 c3 c4 f 5 c) 128)):=(Below.refl _ w).alloc (Nat.le_refl _) _
 have hu:=underlying128
 have hi:=kU
 have hix: ∀W,(Instr.index 205 (.agg #[.string ⟨#[]⟩,.nilFunc,.nilFunc,.string ⟨#[115,116,111,110,101]⟩,.func (.func 211) #[] #[],.func (.func 212) #[] #[],.string ⟨#[119,105,100,116,104]⟩,.func (.func 213) #[] #[],.func (.func 214) #[] #[],.string ⟨#[99,111,117,114,115,101]⟩,.func (.func 215) #[] #[],.func (.func 216) #[] #[],.string ⟨#[97,108,111,110,103]⟩,.func (.func 217) #[] #[],.func (.func 218) #[] #[],.string ⟨#[108,101,118,101,108]⟩,.func (.func 219) #[] #[],.func (.func 220) #[] #[]]) (.int .u8 5)).run prog W=.ok (.agg #[.string ⟨#[108,101,118,101,108]⟩,.func (.func 219) #[] #[],.func (.func 220) #[] #[]]) W:=fun _=>by kernel_rfl
 have hfx: ∀W,(Instr.field 204 (.agg #[.string ⟨#[108,101,118,101,108]⟩,.func (.func 219) #[] #[],.func (.func 220) #[] #[]]) 1).run prog W=.ok (.func (.func 219) #[] #[]) W:=fun _=>by kernel_rfl
 go_enter func108,ntmps108
 go_wp2
 generalize w.alloc (.cells (bG A1 A2 A3 A4 c1 c2 c3 c4 f 5 c) 128)=W0 at*
 go_region_held3 (fun W=>(loadVar 5 ⟨w.heap.size,4,none⟩).run prog W=.ok (.int .u8 5) W∧(loadVar 128 ⟨w.heap.size,0,none⟩).run prog W=.ok (.agg (bG A1 A2 A3 A4 c1 c2 c3 c4 f 5 c)) W) (first|exact mV A1 A2 A3 A4 c1 c2 c3 c4 f dZ|exact mV A1 A2 A3 A4 c1 c2 c3 c4 f kb) (first
  |(go_at_call 162;refine(fH _).mono ?_;rintro e w1 ⟨rfl,hx⟩;have dZ:=(hx.block w.heap.size (by first|exact(lO dZ)|exact(lO kb))).trans (by first|exact dZ|exact kb);have aK:Below w.heap.size w w1:=(by first|exact aK.trans (hx.mono aK.size)|exact hall.drew.trans (hx.mono hall.size));clear hx)
  |(go_at_call 84;refine(dP _ _ _ _).mono ?_;rintro e w' ⟨rfl,rfl⟩)
  |(go_at_call 219;refine(hR _ aK).mono ?_;rintro e w2 ⟨rfl,hx⟩;have dZ:=(hx.block w.heap.size (lO dZ)).trans dZ;have aK:Below w.heap.size w w2:=aK.trans (hx.mono aK.size);clear hx))
 all_goals cases B with
  |true=>
   obtain⟨hck,SS⟩:=ah dZ
   go_wp2
   go_ret
   exact⟨rfl,aK⟩
  |false=>
   go_wp2
   go_ret
   exact⟨rfl,aK⟩
