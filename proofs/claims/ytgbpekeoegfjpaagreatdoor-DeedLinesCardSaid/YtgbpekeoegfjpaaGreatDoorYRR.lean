/- Proved: parts of the walk. -/
import Derived.Test.YtgbpekeoegfjpaaGreatDoorYRP
set_option maxRecDepth 100000
set_option maxHeartbeats 8000000
namespace Go.Proofs
open Tryz RowKit
variable (A1 A2 A3 A4 : Option Addr) (c1 c2 c3 c4 : Nat) (f : Pl.aL)
attribute [-go_sem] run_equalIn_agg loadVar storeVar
attribute [local go_sem] bZ bH dU aT
theorem MW (a:Addr)(w:World):(loadVar 202 a).run prog w=(load a).run prog w:=fE underlying202 rfl a w
attribute [local go_sem] MW
theorem fO :(prog.info? 204).map (·.size)=some 3:=by kernel_rfl
theorem jV {w:World}{g:Nat}{ws:List ByteArray}(h:w.heap[g]?=some (.cells (ws.map Value.string).toArray 9 (0,0))):d9 w w.heap.size (some ⟨g,0,none⟩) ws:=by
 obtain⟨hc,_⟩:=ah h
 refine .inr ⟨g,0,rfl,(lO h),fun k x hx j v hv=> ?_⟩
 simp only[fU]at hv
 obtain⟨hj,rfl⟩:j=0∧v=.string x:=by
  match j,hv with
  |0,hv=>simp at hv;exact⟨rfl,hv.symm⟩
  |j+1,hv=>simp at hv
 subst hj
 rw[Nat.mul_one,Nat.add_zero,Nat.zero_add,hc k,<-Array.getElem?_toList,List.getElem?_map,hx]
 rfl
theorem GN (c:Pl.aZ)(ws:List ByteArray)(J:List UInt8)(w:World)(hJ:Hid (Lib.join (ws.map (·.data.toList)) [32]=J))(hl:J.length<=1000000)(h0:0<ws.length)(hn:ws.length<=100)
  (hR: ∀W,Below w.heap.size w W->Calls prog 212 #[.agg (bG A1 A2 A3 A4 c1 c2 c3 c4 f 1 c)] W (zA ws W)):
  Calls prog 91 #[.agg (bG A1 A2 A3 A4 c1 c2 c3 c4 f 1 c)] w fun e w'=>e=.returned (.string ⟨([115,116,111,110,101,32]++J).toArray⟩)∧Below w.heap.size w w':=by
 have kb:=heap_alloc_new w (.cells (bG A1 A2 A3 A4 c1 c2 c3 c4 f 1 c) 128)
 have hall:Below w.heap.size w (w.alloc (.cells (bG A1 A2 A3 A4 c1 c2 c3 c4 f 1 c) 128)):=(Below.refl _ w).alloc (Nat.le_refl _) _
 have hix: ∀W,(Instr.index 205 (.agg #[.string ⟨#[]⟩,.nilFunc,.nilFunc,.string ⟨#[115,116,111,110,101]⟩,.func (.func 211) #[] #[],.func (.func 212) #[] #[],.string ⟨#[119,105,100,116,104]⟩,.func (.func 213) #[] #[],.func (.func 214) #[] #[],.string ⟨#[99,111,117,114,115,101]⟩,.func (.func 215) #[] #[],.func (.func 216) #[] #[],.string ⟨#[97,108,111,110,103]⟩,.func (.func 217) #[] #[],.func (.func 218) #[] #[],.string ⟨#[108,101,118,101,108]⟩,.func (.func 219) #[] #[],.func (.func 220) #[] #[]]) (.int .u8 1)).run prog W=.ok (.agg #[.string ⟨#[115,116,111,110,101]⟩,.func (.func 211) #[] #[],.func (.func 212) #[] #[]]) W:=fun _=>by kernel_rfl
 have IX: ∀W,(Op.stringOp .add ⟨#[115,116,111,110,101]⟩ ⟨#[32]⟩).run prog W=.ok (.string ⟨#[115,116,111,110,101,32]⟩) W:=fun _=>by kernel_rfl
 have IY: ∀W,(Op.stringOp .add ⟨#[115,116,111,110,101,32]⟩ ⟨J.toArray⟩).run prog W=.ok (.string ⟨([115,116,111,110,101,32]++J).toArray⟩) W:=fun W=>by
  rw[run_string_add W ⟨#[115,116,111,110,101,32]⟩ ⟨J.toArray⟩ (by decide) (by rw[nR];omega),show(⟨#[115,116,111,110,101,32]⟩:ByteArray)=⟨([115,116,111,110,101,32]:List UInt8).toArray⟩ from rfl,dh]
  simp
 have hlt:=lO kb
 have q0:=(ah kb).1 4
 have whole:=fun(W:World) (k:W.heap[w.heap.size]?=some (.cells (bG A1 A2 A3 A4 c1 c2 c3 c4 f 1 c) 128 (0,0)))=>ay.whole (ay.mk (f:=f) (c:=c) (k:=1) k)
 go_enter func91,ntmps91
 go_wp2
 generalize w.alloc (.cells (bG A1 A2 A3 A4 c1 c2 c3 c4 f 1 c) 128)=W0 at*
 refine wp_region_held_drew (S:=fun W=>W.cell? ⟨w.heap.size,4,none⟩=some (.int .u8 1)) (by kernel_rfl) q0 (fun hHeld=> ?_)
 refine tJ 1 5 rfl rfl ?_
 try simp only[au]
 refine tJ 2 6 rfl rfl ?_
 try simp only[au]
 refine tJ 3 7 rfl rfl ?_
 try simp only[au]
 refine wpAnyH_ready (rs:=[0,5]) (by kernel_rfl) (by simp) ?_
 refine aI (some 4) rfl rfl (fun K hK=> ?_) (aI (some 3) rfl rfl (fun K hK=> ?_) AllReadyH.nil)
 ·go_simp
  refine(fH _).mono ?_
  rintro e w1 ⟨rfl,hx⟩
  have dZ:=(hx.block w.heap.size hlt).trans kb
  have aK:Below w.heap.size w w1:=hall.drew.trans (hx.mono hall.size)
  refine hK.out _ _ ((ah dZ).1 4) (fun hHeld=> ?_)
  clear hK K hx kb hall
  try simp only[au]
  refine tJ 4 8 rfl rfl ?_
  try simp only[au]
  refine wpAnyH_ready (rs:=[5]) (by kernel_rfl) (by simp) ?_
  refine aI (some 3) rfl rfl (fun K hK=> ?_) AllReadyH.nil
  go_simp
  have ha:=heap_alloc_new w1 (.cells #[.string ⟨#[]⟩,.nilFunc,.nilFunc] 204)
  have jh:=(Below.heap_alloc w1 (.cells #[.string ⟨#[]⟩,.nilFunc,.nilFunc] 204) w.heap.size (lO dZ)).trans dZ
  have bY:Below w.heap.size w (w1.alloc (.cells #[.string ⟨#[]⟩,.nilFunc,.nilFunc] 204)):=aK.alloc aK.size _
  refine hK.out _ _ ((ah jh).1 4) (fun hHeld=> ?_)
  clear hK K
  try simp only[au]
  obtain⟨W,hst,kp,hg⟩:=aG _ w1.heap.size _ 204 _ #[.string ⟨#[115,116,111,110,101]⟩,.func (.func 211) #[] #[],.func (.func 212) #[] #[]] ha fO rfl (by simp[Value.oneCell'])
  have fJ:W.heap[w.heap.size]?=_:=(hg.block _ (lO jh) (by have:=lO dZ;simp;omega)).trans jh
  have aJ:Below w.heap.size w W:=bY.grown hg bY.size (fun k e=>by cases e;exact aK.size)
  refine wpAnyH_ready (rs:=[6]) (by kernel_rfl) (by simp) ?_
  refine aI none rfl rfl (fun K hK=> ?_) AllReadyH.nil
  go_simp
  refine hK.out _ _ ((ah fJ).1 4) (fun hHeld=> ?_)
  clear hK K
  try simp only[au]
  refine wpAnyH_done (by kernel_rfl) ?_ _
  clear hHeld hix q0
  have aJ:=aJ.drew
  have kp:=(show W.drew.heap[w1.heap.size]?=_ from kp)
  have fJ:=(show W.drew.heap[w.heap.size]?=_ from fJ)
  go_wp2
  go_region_held3 (fun W=>(loadVar 128 ⟨w.heap.size,0,none⟩).run prog W=.ok (.agg (bG A1 A2 A3 A4 c1 c2 c3 c4 f 1 c)) W∧W.cell? ⟨w1.heap.size,0,none⟩=some (.string ⟨#[115,116,111,110,101]⟩)∧W.cell? ⟨w1.heap.size,2,none⟩=some (.func (.func 212) #[] #[])) (exact⟨whole _ fJ,(ah kp).1 0,(ah kp).1 2⟩) (first
   |(go_at_call 212;refine(hR _ aJ).mono ?_;rintro e w2 ⟨g,rfl,hg,hge,hx⟩;have fJ:=kE hx fJ;have kp:=kE hx kp;have aJ:=aJ.trans (hx.mono aJ.size);clear hx hR)
   |(go_at_call 119;refine(mJ g _ ws J _ hJ hl (jV hg) h0 (Nat.le_refl _) hn).mono ?_;rintro e w3 ⟨rfl,hx⟩;have fJ:=kE hx fJ;have kp:=kE hx kp;have aJ:=aJ.trans (hx.mono aJ.size);clear hx))
  all_goals go_wp2
  all_goals go_ret
  all_goals exact⟨rfl,aJ⟩
 ·go_simp
  have ha:=heap_alloc_new W0.drew (.cells #[.string ⟨#[]⟩,.nilFunc,.nilFunc] 204)
  have dZ:=(Below.heap_alloc W0.drew (.cells #[.string ⟨#[]⟩,.nilFunc,.nilFunc] 204) w.heap.size hlt).trans kb
  have aK:Below w.heap.size w (W0.drew.alloc (.cells #[.string ⟨#[]⟩,.nilFunc,.nilFunc] 204)):=hall.drew.alloc hall.size _
  refine hK.out _ _ ((ah dZ).1 4) (fun hHeld=> ?_)
  clear hK K
  try simp only[au]
  refine wpAnyH_ready (rs:=[0]) (by kernel_rfl) (by simp) ?_
  refine aI (some 4) rfl rfl (fun K hK=> ?_) AllReadyH.nil
  go_simp
  refine(fH _).mono ?_
  rintro e w1 ⟨rfl,hx⟩
  have jh:=(hx.block w.heap.size (lO dZ)).trans dZ
  have ha:=kE hx ha
  have bY:Below w.heap.size w w1:=aK.trans (hx.mono aK.size)
  refine hK.out _ _ ((ah jh).1 4) (fun hHeld=> ?_)
  clear hK K hx
  try simp only[au]
  refine tJ 4 8 rfl rfl ?_
  try simp only[au]
  obtain⟨W,hst,kp,hg⟩:=aG _ W0.heap.size _ 204 _ #[.string ⟨#[115,116,111,110,101]⟩,.func (.func 211) #[] #[],.func (.func 212) #[] #[]] ha fO rfl (by simp[Value.oneCell'])
  have fJ:W.heap[w.heap.size]?=_:=(hg.block _ (lO jh) (by simp;omega)).trans jh
  have aJ:Below w.heap.size w W:=bY.grown hg bY.size (fun k e=>by cases e;exact hall.size)
  clear hall aK bY kb dZ jh ha hg
  refine wpAnyH_ready (rs:=[6]) (by kernel_rfl) (by simp) ?_
  refine aI none rfl rfl (fun K hK=> ?_) AllReadyH.nil
  go_simp
  refine hK.out _ _ ((ah fJ).1 4) (fun hHeld=> ?_)
  clear hK K
  try simp only[au]
  refine wpAnyH_done (by kernel_rfl) ?_ _
  clear hHeld hix q0
  have aJ:=aJ.drew
  have kp:=(show W.drew.heap[W0.heap.size]?=_ from kp)
  have fJ:=(show W.drew.heap[w.heap.size]?=_ from fJ)
  go_wp2
  go_region_held3 (fun W=>(loadVar 128 ⟨w.heap.size,0,none⟩).run prog W=.ok (.agg (bG A1 A2 A3 A4 c1 c2 c3 c4 f 1 c)) W∧W.cell? ⟨W0.heap.size,0,none⟩=some (.string ⟨#[115,116,111,110,101]⟩)∧W.cell? ⟨W0.heap.size,2,none⟩=some (.func (.func 212) #[] #[])) (exact⟨whole _ fJ,(ah kp).1 0,(ah kp).1 2⟩) (first
   |(go_at_call 212;refine(hR _ aJ).mono ?_;rintro e w2 ⟨g,rfl,hg,hge,hx⟩;have fJ:=kE hx fJ;have kp:=kE hx kp;have aJ:=aJ.trans (hx.mono aJ.size);clear hx hR)
   |(go_at_call 119;refine(mJ g _ ws J _ hJ hl (jV hg) h0 (Nat.le_refl _) hn).mono ?_;rintro e w3 ⟨rfl,hx⟩;have fJ:=kE hx fJ;have kp:=kE hx kp;have aJ:=aJ.trans (hx.mono aJ.size);clear hx))
  all_goals go_wp2
  all_goals go_ret
  all_goals exact⟨rfl,aJ⟩
theorem GQ (c:Pl.aZ)(ws:List ByteArray)(J:List UInt8)(w:World)(hJ:Hid (Lib.join (ws.map (·.data.toList)) [32]=J))(hl:J.length<=1000000)(h0:0<ws.length)(hn:ws.length<=100)
  (hR: ∀W,Below w.heap.size w W->Calls prog 214 #[.agg (bG A1 A2 A3 A4 c1 c2 c3 c4 f 2 c)] W (zA ws W)):
  Calls prog 91 #[.agg (bG A1 A2 A3 A4 c1 c2 c3 c4 f 2 c)] w fun e w'=>e=.returned (.string ⟨([119,105,100,116,104,32]++J).toArray⟩)∧Below w.heap.size w w':=by
 have kb:=heap_alloc_new w (.cells (bG A1 A2 A3 A4 c1 c2 c3 c4 f 2 c) 128)
 have hall:Below w.heap.size w (w.alloc (.cells (bG A1 A2 A3 A4 c1 c2 c3 c4 f 2 c) 128)):=(Below.refl _ w).alloc (Nat.le_refl _) _
 have hix: ∀W,(Instr.index 205 (.agg #[.string ⟨#[]⟩,.nilFunc,.nilFunc,.string ⟨#[115,116,111,110,101]⟩,.func (.func 211) #[] #[],.func (.func 212) #[] #[],.string ⟨#[119,105,100,116,104]⟩,.func (.func 213) #[] #[],.func (.func 214) #[] #[],.string ⟨#[99,111,117,114,115,101]⟩,.func (.func 215) #[] #[],.func (.func 216) #[] #[],.string ⟨#[97,108,111,110,103]⟩,.func (.func 217) #[] #[],.func (.func 218) #[] #[],.string ⟨#[108,101,118,101,108]⟩,.func (.func 219) #[] #[],.func (.func 220) #[] #[]]) (.int .u8 2)).run prog W=.ok (.agg #[.string ⟨#[119,105,100,116,104]⟩,.func (.func 213) #[] #[],.func (.func 214) #[] #[]]) W:=fun _=>by kernel_rfl
 have IX: ∀W,(Op.stringOp .add ⟨#[119,105,100,116,104]⟩ ⟨#[32]⟩).run prog W=.ok (.string ⟨#[119,105,100,116,104,32]⟩) W:=fun _=>by kernel_rfl
 have IY: ∀W,(Op.stringOp .add ⟨#[119,105,100,116,104,32]⟩ ⟨J.toArray⟩).run prog W=.ok (.string ⟨([119,105,100,116,104,32]++J).toArray⟩) W:=fun W=>by
  rw[run_string_add W ⟨#[119,105,100,116,104,32]⟩ ⟨J.toArray⟩ (by decide) (by rw[nR];omega),show(⟨#[119,105,100,116,104,32]⟩:ByteArray)=⟨([119,105,100,116,104,32]:List UInt8).toArray⟩ from rfl,dh]
  simp
 have hlt:=lO kb
 have q0:=(ah kb).1 4
 have whole:=fun(W:World) (k:W.heap[w.heap.size]?=some (.cells (bG A1 A2 A3 A4 c1 c2 c3 c4 f 2 c) 128 (0,0)))=>ay.whole (ay.mk (f:=f) (c:=c) (k:=2) k)
 go_enter func91,ntmps91
 go_wp2
 generalize w.alloc (.cells (bG A1 A2 A3 A4 c1 c2 c3 c4 f 2 c) 128)=W0 at*
 refine wp_region_held_drew (S:=fun W=>W.cell? ⟨w.heap.size,4,none⟩=some (.int .u8 2)) (by kernel_rfl) q0 (fun hHeld=> ?_)
 refine tJ 1 5 rfl rfl ?_
 try simp only[au]
 refine tJ 2 6 rfl rfl ?_
 try simp only[au]
 refine tJ 3 7 rfl rfl ?_
 try simp only[au]
 refine wpAnyH_ready (rs:=[0,5]) (by kernel_rfl) (by simp) ?_
 refine aI (some 4) rfl rfl (fun K hK=> ?_) (aI (some 3) rfl rfl (fun K hK=> ?_) AllReadyH.nil)
 ·go_simp
  refine(fH _).mono ?_
  rintro e w1 ⟨rfl,hx⟩
  have dZ:=(hx.block w.heap.size hlt).trans kb
  have aK:Below w.heap.size w w1:=hall.drew.trans (hx.mono hall.size)
  refine hK.out _ _ ((ah dZ).1 4) (fun hHeld=> ?_)
  clear hK K hx kb hall
  try simp only[au]
  refine tJ 4 8 rfl rfl ?_
  try simp only[au]
  refine wpAnyH_ready (rs:=[5]) (by kernel_rfl) (by simp) ?_
  refine aI (some 3) rfl rfl (fun K hK=> ?_) AllReadyH.nil
  go_simp
  have ha:=heap_alloc_new w1 (.cells #[.string ⟨#[]⟩,.nilFunc,.nilFunc] 204)
  have jh:=(Below.heap_alloc w1 (.cells #[.string ⟨#[]⟩,.nilFunc,.nilFunc] 204) w.heap.size (lO dZ)).trans dZ
  have bY:Below w.heap.size w (w1.alloc (.cells #[.string ⟨#[]⟩,.nilFunc,.nilFunc] 204)):=aK.alloc aK.size _
  refine hK.out _ _ ((ah jh).1 4) (fun hHeld=> ?_)
  clear hK K
  try simp only[au]
  obtain⟨W,hst,kp,hg⟩:=aG _ w1.heap.size _ 204 _ #[.string ⟨#[119,105,100,116,104]⟩,.func (.func 213) #[] #[],.func (.func 214) #[] #[]] ha fO rfl (by simp[Value.oneCell'])
  have fJ:W.heap[w.heap.size]?=_:=(hg.block _ (lO jh) (by have:=lO dZ;simp;omega)).trans jh
  have aJ:Below w.heap.size w W:=bY.grown hg bY.size (fun k e=>by cases e;exact aK.size)
  refine wpAnyH_ready (rs:=[6]) (by kernel_rfl) (by simp) ?_
  refine aI none rfl rfl (fun K hK=> ?_) AllReadyH.nil
  go_simp
  refine hK.out _ _ ((ah fJ).1 4) (fun hHeld=> ?_)
  clear hK K
  try simp only[au]
  refine wpAnyH_done (by kernel_rfl) ?_ _
  clear hHeld hix q0
  have aJ:=aJ.drew
  have kp:=(show W.drew.heap[w1.heap.size]?=_ from kp)
  have fJ:=(show W.drew.heap[w.heap.size]?=_ from fJ)
  go_wp2
  go_region_held3 (fun W=>(loadVar 128 ⟨w.heap.size,0,none⟩).run prog W=.ok (.agg (bG A1 A2 A3 A4 c1 c2 c3 c4 f 2 c)) W∧W.cell? ⟨w1.heap.size,0,none⟩=some (.string ⟨#[119,105,100,116,104]⟩)∧W.cell? ⟨w1.heap.size,2,none⟩=some (.func (.func 214) #[] #[])) (exact⟨whole _ fJ,(ah kp).1 0,(ah kp).1 2⟩) (first
   |(go_at_call 214;refine(hR _ aJ).mono ?_;rintro e w2 ⟨g,rfl,hg,hge,hx⟩;have fJ:=kE hx fJ;have kp:=kE hx kp;have aJ:=aJ.trans (hx.mono aJ.size);clear hx hR)
   |(go_at_call 119;refine(mJ g _ ws J _ hJ hl (jV hg) h0 (Nat.le_refl _) hn).mono ?_;rintro e w3 ⟨rfl,hx⟩;have fJ:=kE hx fJ;have kp:=kE hx kp;have aJ:=aJ.trans (hx.mono aJ.size);clear hx))
  all_goals go_wp2
  all_goals go_ret
  all_goals exact⟨rfl,aJ⟩
 ·go_simp
  have ha:=heap_alloc_new W0.drew (.cells #[.string ⟨#[]⟩,.nilFunc,.nilFunc] 204)
  have dZ:=(Below.heap_alloc W0.drew (.cells #[.string ⟨#[]⟩,.nilFunc,.nilFunc] 204) w.heap.size hlt).trans kb
  have aK:Below w.heap.size w (W0.drew.alloc (.cells #[.string ⟨#[]⟩,.nilFunc,.nilFunc] 204)):=hall.drew.alloc hall.size _
  refine hK.out _ _ ((ah dZ).1 4) (fun hHeld=> ?_)
  clear hK K
  try simp only[au]
  refine wpAnyH_ready (rs:=[0]) (by kernel_rfl) (by simp) ?_
  refine aI (some 4) rfl rfl (fun K hK=> ?_) AllReadyH.nil
  go_simp
  refine(fH _).mono ?_
  rintro e w1 ⟨rfl,hx⟩
  have jh:=(hx.block w.heap.size (lO dZ)).trans dZ
  have ha:=kE hx ha
  have bY:Below w.heap.size w w1:=aK.trans (hx.mono aK.size)
  refine hK.out _ _ ((ah jh).1 4) (fun hHeld=> ?_)
  clear hK K hx
  try simp only[au]
  refine tJ 4 8 rfl rfl ?_
  try simp only[au]
  obtain⟨W,hst,kp,hg⟩:=aG _ W0.heap.size _ 204 _ #[.string ⟨#[119,105,100,116,104]⟩,.func (.func 213) #[] #[],.func (.func 214) #[] #[]] ha fO rfl (by simp[Value.oneCell'])
  have fJ:W.heap[w.heap.size]?=_:=(hg.block _ (lO jh) (by simp;omega)).trans jh
  have aJ:Below w.heap.size w W:=bY.grown hg bY.size (fun k e=>by cases e;exact hall.size)
  clear hall aK bY kb dZ jh ha hg
  refine wpAnyH_ready (rs:=[6]) (by kernel_rfl) (by simp) ?_
  refine aI none rfl rfl (fun K hK=> ?_) AllReadyH.nil
  go_simp
  refine hK.out _ _ ((ah fJ).1 4) (fun hHeld=> ?_)
  clear hK K
  try simp only[au]
  refine wpAnyH_done (by kernel_rfl) ?_ _
  clear hHeld hix q0
  have aJ:=aJ.drew
  have kp:=(show W.drew.heap[W0.heap.size]?=_ from kp)
  have fJ:=(show W.drew.heap[w.heap.size]?=_ from fJ)
  go_wp2
  go_region_held3 (fun W=>(loadVar 128 ⟨w.heap.size,0,none⟩).run prog W=.ok (.agg (bG A1 A2 A3 A4 c1 c2 c3 c4 f 2 c)) W∧W.cell? ⟨W0.heap.size,0,none⟩=some (.string ⟨#[119,105,100,116,104]⟩)∧W.cell? ⟨W0.heap.size,2,none⟩=some (.func (.func 214) #[] #[])) (exact⟨whole _ fJ,(ah kp).1 0,(ah kp).1 2⟩) (first
   |(go_at_call 214;refine(hR _ aJ).mono ?_;rintro e w2 ⟨g,rfl,hg,hge,hx⟩;have fJ:=kE hx fJ;have kp:=kE hx kp;have aJ:=aJ.trans (hx.mono aJ.size);clear hx hR)
   |(go_at_call 119;refine(mJ g _ ws J _ hJ hl (jV hg) h0 (Nat.le_refl _) hn).mono ?_;rintro e w3 ⟨rfl,hx⟩;have fJ:=kE hx fJ;have kp:=kE hx kp;have aJ:=aJ.trans (hx.mono aJ.size);clear hx))
  all_goals go_wp2
  all_goals go_ret
  all_goals exact⟨rfl,aJ⟩
theorem EP (c:Pl.aZ)(ws:List ByteArray)(J:List UInt8)(w:World)(hJ:Hid (Lib.join (ws.map (·.data.toList)) [32]=J))(hl:J.length<=1000000)(h0:0<ws.length)(hn:ws.length<=100)
  (hR: ∀W,Below w.heap.size w W->Calls prog 216 #[.agg (bG A1 A2 A3 A4 c1 c2 c3 c4 f 3 c)] W (zA ws W)):
  Calls prog 91 #[.agg (bG A1 A2 A3 A4 c1 c2 c3 c4 f 3 c)] w fun e w'=>e=.returned (.string ⟨([99,111,117,114,115,101,32]++J).toArray⟩)∧Below w.heap.size w w':=by
 have kb:=heap_alloc_new w (.cells (bG A1 A2 A3 A4 c1 c2 c3 c4 f 3 c) 128)
 have hall:Below w.heap.size w (w.alloc (.cells (bG A1 A2 A3 A4 c1 c2 c3 c4 f 3 c) 128)):=(Below.refl _ w).alloc (Nat.le_refl _) _
 have hix: ∀W,(Instr.index 205 (.agg #[.string ⟨#[]⟩,.nilFunc,.nilFunc,.string ⟨#[115,116,111,110,101]⟩,.func (.func 211) #[] #[],.func (.func 212) #[] #[],.string ⟨#[119,105,100,116,104]⟩,.func (.func 213) #[] #[],.func (.func 214) #[] #[],.string ⟨#[99,111,117,114,115,101]⟩,.func (.func 215) #[] #[],.func (.func 216) #[] #[],.string ⟨#[97,108,111,110,103]⟩,.func (.func 217) #[] #[],.func (.func 218) #[] #[],.string ⟨#[108,101,118,101,108]⟩,.func (.func 219) #[] #[],.func (.func 220) #[] #[]]) (.int .u8 3)).run prog W=.ok (.agg #[.string ⟨#[99,111,117,114,115,101]⟩,.func (.func 215) #[] #[],.func (.func 216) #[] #[]]) W:=fun _=>by kernel_rfl
 have IX: ∀W,(Op.stringOp .add ⟨#[99,111,117,114,115,101]⟩ ⟨#[32]⟩).run prog W=.ok (.string ⟨#[99,111,117,114,115,101,32]⟩) W:=fun _=>by kernel_rfl
 have IY: ∀W,(Op.stringOp .add ⟨#[99,111,117,114,115,101,32]⟩ ⟨J.toArray⟩).run prog W=.ok (.string ⟨([99,111,117,114,115,101,32]++J).toArray⟩) W:=fun W=>by
  rw[run_string_add W ⟨#[99,111,117,114,115,101,32]⟩ ⟨J.toArray⟩ (by decide) (by rw[nR];omega),show(⟨#[99,111,117,114,115,101,32]⟩:ByteArray)=⟨([99,111,117,114,115,101,32]:List UInt8).toArray⟩ from rfl,dh]
  simp
 have hlt:=lO kb
 have q0:=(ah kb).1 4
 have whole:=fun(W:World) (k:W.heap[w.heap.size]?=some (.cells (bG A1 A2 A3 A4 c1 c2 c3 c4 f 3 c) 128 (0,0)))=>ay.whole (ay.mk (f:=f) (c:=c) (k:=3) k)
 go_enter func91,ntmps91
 go_wp2
 generalize w.alloc (.cells (bG A1 A2 A3 A4 c1 c2 c3 c4 f 3 c) 128)=W0 at*
 refine wp_region_held_drew (S:=fun W=>W.cell? ⟨w.heap.size,4,none⟩=some (.int .u8 3)) (by kernel_rfl) q0 (fun hHeld=> ?_)
 refine tJ 1 5 rfl rfl ?_
 try simp only[au]
 refine tJ 2 6 rfl rfl ?_
 try simp only[au]
 refine tJ 3 7 rfl rfl ?_
 try simp only[au]
 refine wpAnyH_ready (rs:=[0,5]) (by kernel_rfl) (by simp) ?_
 refine aI (some 4) rfl rfl (fun K hK=> ?_) (aI (some 3) rfl rfl (fun K hK=> ?_) AllReadyH.nil)
 ·go_simp
  refine(fH _).mono ?_
  rintro e w1 ⟨rfl,hx⟩
  have dZ:=(hx.block w.heap.size hlt).trans kb
  have aK:Below w.heap.size w w1:=hall.drew.trans (hx.mono hall.size)
  refine hK.out _ _ ((ah dZ).1 4) (fun hHeld=> ?_)
  clear hK K hx kb hall
  try simp only[au]
  refine tJ 4 8 rfl rfl ?_
  try simp only[au]
  refine wpAnyH_ready (rs:=[5]) (by kernel_rfl) (by simp) ?_
  refine aI (some 3) rfl rfl (fun K hK=> ?_) AllReadyH.nil
  go_simp
  have ha:=heap_alloc_new w1 (.cells #[.string ⟨#[]⟩,.nilFunc,.nilFunc] 204)
  have jh:=(Below.heap_alloc w1 (.cells #[.string ⟨#[]⟩,.nilFunc,.nilFunc] 204) w.heap.size (lO dZ)).trans dZ
  have bY:Below w.heap.size w (w1.alloc (.cells #[.string ⟨#[]⟩,.nilFunc,.nilFunc] 204)):=aK.alloc aK.size _
  refine hK.out _ _ ((ah jh).1 4) (fun hHeld=> ?_)
  clear hK K
  try simp only[au]
  obtain⟨W,hst,kp,hg⟩:=aG _ w1.heap.size _ 204 _ #[.string ⟨#[99,111,117,114,115,101]⟩,.func (.func 215) #[] #[],.func (.func 216) #[] #[]] ha fO rfl (by simp[Value.oneCell'])
  have fJ:W.heap[w.heap.size]?=_:=(hg.block _ (lO jh) (by have:=lO dZ;simp;omega)).trans jh
  have aJ:Below w.heap.size w W:=bY.grown hg bY.size (fun k e=>by cases e;exact aK.size)
  refine wpAnyH_ready (rs:=[6]) (by kernel_rfl) (by simp) ?_
  refine aI none rfl rfl (fun K hK=> ?_) AllReadyH.nil
  go_simp
  refine hK.out _ _ ((ah fJ).1 4) (fun hHeld=> ?_)
  clear hK K
  try simp only[au]
  refine wpAnyH_done (by kernel_rfl) ?_ _
  clear hHeld hix q0
  have aJ:=aJ.drew
  have kp:=(show W.drew.heap[w1.heap.size]?=_ from kp)
  have fJ:=(show W.drew.heap[w.heap.size]?=_ from fJ)
  go_wp2
  go_region_held3 (fun W=>(loadVar 128 ⟨w.heap.size,0,none⟩).run prog W=.ok (.agg (bG A1 A2 A3 A4 c1 c2 c3 c4 f 3 c)) W∧W.cell? ⟨w1.heap.size,0,none⟩=some (.string ⟨#[99,111,117,114,115,101]⟩)∧W.cell? ⟨w1.heap.size,2,none⟩=some (.func (.func 216) #[] #[])) (exact⟨whole _ fJ,(ah kp).1 0,(ah kp).1 2⟩) (first
   |(go_at_call 216;refine(hR _ aJ).mono ?_;rintro e w2 ⟨g,rfl,hg,hge,hx⟩;have fJ:=kE hx fJ;have kp:=kE hx kp;have aJ:=aJ.trans (hx.mono aJ.size);clear hx hR)
   |(go_at_call 119;refine(mJ g _ ws J _ hJ hl (jV hg) h0 (Nat.le_refl _) hn).mono ?_;rintro e w3 ⟨rfl,hx⟩;have fJ:=kE hx fJ;have kp:=kE hx kp;have aJ:=aJ.trans (hx.mono aJ.size);clear hx))
  all_goals go_wp2
  all_goals go_ret
  all_goals exact⟨rfl,aJ⟩
 ·go_simp
  have ha:=heap_alloc_new W0.drew (.cells #[.string ⟨#[]⟩,.nilFunc,.nilFunc] 204)
  have dZ:=(Below.heap_alloc W0.drew (.cells #[.string ⟨#[]⟩,.nilFunc,.nilFunc] 204) w.heap.size hlt).trans kb
  have aK:Below w.heap.size w (W0.drew.alloc (.cells #[.string ⟨#[]⟩,.nilFunc,.nilFunc] 204)):=hall.drew.alloc hall.size _
  refine hK.out _ _ ((ah dZ).1 4) (fun hHeld=> ?_)
  clear hK K
  try simp only[au]
  refine wpAnyH_ready (rs:=[0]) (by kernel_rfl) (by simp) ?_
  refine aI (some 4) rfl rfl (fun K hK=> ?_) AllReadyH.nil
  go_simp
  refine(fH _).mono ?_
  rintro e w1 ⟨rfl,hx⟩
  have jh:=(hx.block w.heap.size (lO dZ)).trans dZ
  have ha:=kE hx ha
  have bY:Below w.heap.size w w1:=aK.trans (hx.mono aK.size)
  refine hK.out _ _ ((ah jh).1 4) (fun hHeld=> ?_)
  clear hK K hx
  try simp only[au]
  refine tJ 4 8 rfl rfl ?_
  try simp only[au]
  obtain⟨W,hst,kp,hg⟩:=aG _ W0.heap.size _ 204 _ #[.string ⟨#[99,111,117,114,115,101]⟩,.func (.func 215) #[] #[],.func (.func 216) #[] #[]] ha fO rfl (by simp[Value.oneCell'])
  have fJ:W.heap[w.heap.size]?=_:=(hg.block _ (lO jh) (by simp;omega)).trans jh
  have aJ:Below w.heap.size w W:=bY.grown hg bY.size (fun k e=>by cases e;exact hall.size)
  clear hall aK bY kb dZ jh ha hg
  refine wpAnyH_ready (rs:=[6]) (by kernel_rfl) (by simp) ?_
  refine aI none rfl rfl (fun K hK=> ?_) AllReadyH.nil
  go_simp
  refine hK.out _ _ ((ah fJ).1 4) (fun hHeld=> ?_)
  clear hK K
  try simp only[au]
  refine wpAnyH_done (by kernel_rfl) ?_ _
  clear hHeld hix q0
  have aJ:=aJ.drew
  have kp:=(show W.drew.heap[W0.heap.size]?=_ from kp)
  have fJ:=(show W.drew.heap[w.heap.size]?=_ from fJ)
  go_wp2
  go_region_held3 (fun W=>(loadVar 128 ⟨w.heap.size,0,none⟩).run prog W=.ok (.agg (bG A1 A2 A3 A4 c1 c2 c3 c4 f 3 c)) W∧W.cell? ⟨W0.heap.size,0,none⟩=some (.string ⟨#[99,111,117,114,115,101]⟩)∧W.cell? ⟨W0.heap.size,2,none⟩=some (.func (.func 216) #[] #[])) (exact⟨whole _ fJ,(ah kp).1 0,(ah kp).1 2⟩) (first
   |(go_at_call 216;refine(hR _ aJ).mono ?_;rintro e w2 ⟨g,rfl,hg,hge,hx⟩;have fJ:=kE hx fJ;have kp:=kE hx kp;have aJ:=aJ.trans (hx.mono aJ.size);clear hx hR)
   |(go_at_call 119;refine(mJ g _ ws J _ hJ hl (jV hg) h0 (Nat.le_refl _) hn).mono ?_;rintro e w3 ⟨rfl,hx⟩;have fJ:=kE hx fJ;have kp:=kE hx kp;have aJ:=aJ.trans (hx.mono aJ.size);clear hx))
  all_goals go_wp2
  all_goals go_ret
  all_goals exact⟨rfl,aJ⟩
theorem GR (c:Pl.aZ)(ws:List ByteArray)(J:List UInt8)(w:World)(hJ:Hid (Lib.join (ws.map (·.data.toList)) [32]=J))(hl:J.length<=1000000)(h0:0<ws.length)(hn:ws.length<=100)
  (hR: ∀W,Below w.heap.size w W->Calls prog 218 #[.agg (bG A1 A2 A3 A4 c1 c2 c3 c4 f 4 c)] W (zA ws W)):
  Calls prog 91 #[.agg (bG A1 A2 A3 A4 c1 c2 c3 c4 f 4 c)] w fun e w'=>e=.returned (.string ⟨([97,108,111,110,103,32]++J).toArray⟩)∧Below w.heap.size w w':=by
 have kb:=heap_alloc_new w (.cells (bG A1 A2 A3 A4 c1 c2 c3 c4 f 4 c) 128)
 have hall:Below w.heap.size w (w.alloc (.cells (bG A1 A2 A3 A4 c1 c2 c3 c4 f 4 c) 128)):=(Below.refl _ w).alloc (Nat.le_refl _) _
 have hix: ∀W,(Instr.index 205 (.agg #[.string ⟨#[]⟩,.nilFunc,.nilFunc,.string ⟨#[115,116,111,110,101]⟩,.func (.func 211) #[] #[],.func (.func 212) #[] #[],.string ⟨#[119,105,100,116,104]⟩,.func (.func 213) #[] #[],.func (.func 214) #[] #[],.string ⟨#[99,111,117,114,115,101]⟩,.func (.func 215) #[] #[],.func (.func 216) #[] #[],.string ⟨#[97,108,111,110,103]⟩,.func (.func 217) #[] #[],.func (.func 218) #[] #[],.string ⟨#[108,101,118,101,108]⟩,.func (.func 219) #[] #[],.func (.func 220) #[] #[]]) (.int .u8 4)).run prog W=.ok (.agg #[.string ⟨#[97,108,111,110,103]⟩,.func (.func 217) #[] #[],.func (.func 218) #[] #[]]) W:=fun _=>by kernel_rfl
 have IX: ∀W,(Op.stringOp .add ⟨#[97,108,111,110,103]⟩ ⟨#[32]⟩).run prog W=.ok (.string ⟨#[97,108,111,110,103,32]⟩) W:=fun _=>by kernel_rfl
 have IY: ∀W,(Op.stringOp .add ⟨#[97,108,111,110,103,32]⟩ ⟨J.toArray⟩).run prog W=.ok (.string ⟨([97,108,111,110,103,32]++J).toArray⟩) W:=fun W=>by
  rw[run_string_add W ⟨#[97,108,111,110,103,32]⟩ ⟨J.toArray⟩ (by decide) (by rw[nR];omega),show(⟨#[97,108,111,110,103,32]⟩:ByteArray)=⟨([97,108,111,110,103,32]:List UInt8).toArray⟩ from rfl,dh]
  simp
 have hlt:=lO kb
 have q0:=(ah kb).1 4
 have whole:=fun(W:World) (k:W.heap[w.heap.size]?=some (.cells (bG A1 A2 A3 A4 c1 c2 c3 c4 f 4 c) 128 (0,0)))=>ay.whole (ay.mk (f:=f) (c:=c) (k:=4) k)
 go_enter func91,ntmps91
 go_wp2
 generalize w.alloc (.cells (bG A1 A2 A3 A4 c1 c2 c3 c4 f 4 c) 128)=W0 at*
 refine wp_region_held_drew (S:=fun W=>W.cell? ⟨w.heap.size,4,none⟩=some (.int .u8 4)) (by kernel_rfl) q0 (fun hHeld=> ?_)
 refine tJ 1 5 rfl rfl ?_
 try simp only[au]
 refine tJ 2 6 rfl rfl ?_
 try simp only[au]
 refine tJ 3 7 rfl rfl ?_
 try simp only[au]
 refine wpAnyH_ready (rs:=[0,5]) (by kernel_rfl) (by simp) ?_
 refine aI (some 4) rfl rfl (fun K hK=> ?_) (aI (some 3) rfl rfl (fun K hK=> ?_) AllReadyH.nil)
 ·go_simp
  refine(fH _).mono ?_
  rintro e w1 ⟨rfl,hx⟩
  have dZ:=(hx.block w.heap.size hlt).trans kb
  have aK:Below w.heap.size w w1:=hall.drew.trans (hx.mono hall.size)
  refine hK.out _ _ ((ah dZ).1 4) (fun hHeld=> ?_)
  clear hK K hx kb hall
  try simp only[au]
  refine tJ 4 8 rfl rfl ?_
  try simp only[au]
  refine wpAnyH_ready (rs:=[5]) (by kernel_rfl) (by simp) ?_
  refine aI (some 3) rfl rfl (fun K hK=> ?_) AllReadyH.nil
  go_simp
  have ha:=heap_alloc_new w1 (.cells #[.string ⟨#[]⟩,.nilFunc,.nilFunc] 204)
  have jh:=(Below.heap_alloc w1 (.cells #[.string ⟨#[]⟩,.nilFunc,.nilFunc] 204) w.heap.size (lO dZ)).trans dZ
  have bY:Below w.heap.size w (w1.alloc (.cells #[.string ⟨#[]⟩,.nilFunc,.nilFunc] 204)):=aK.alloc aK.size _
  refine hK.out _ _ ((ah jh).1 4) (fun hHeld=> ?_)
  clear hK K
  try simp only[au]
  obtain⟨W,hst,kp,hg⟩:=aG _ w1.heap.size _ 204 _ #[.string ⟨#[97,108,111,110,103]⟩,.func (.func 217) #[] #[],.func (.func 218) #[] #[]] ha fO rfl (by simp[Value.oneCell'])
  have fJ:W.heap[w.heap.size]?=_:=(hg.block _ (lO jh) (by have:=lO dZ;simp;omega)).trans jh
  have aJ:Below w.heap.size w W:=bY.grown hg bY.size (fun k e=>by cases e;exact aK.size)
  refine wpAnyH_ready (rs:=[6]) (by kernel_rfl) (by simp) ?_
  refine aI none rfl rfl (fun K hK=> ?_) AllReadyH.nil
  go_simp
  refine hK.out _ _ ((ah fJ).1 4) (fun hHeld=> ?_)
  clear hK K
  try simp only[au]
  refine wpAnyH_done (by kernel_rfl) ?_ _
  clear hHeld hix q0
  have aJ:=aJ.drew
  have kp:=(show W.drew.heap[w1.heap.size]?=_ from kp)
  have fJ:=(show W.drew.heap[w.heap.size]?=_ from fJ)
  go_wp2
  go_region_held3 (fun W=>(loadVar 128 ⟨w.heap.size,0,none⟩).run prog W=.ok (.agg (bG A1 A2 A3 A4 c1 c2 c3 c4 f 4 c)) W∧W.cell? ⟨w1.heap.size,0,none⟩=some (.string ⟨#[97,108,111,110,103]⟩)∧W.cell? ⟨w1.heap.size,2,none⟩=some (.func (.func 218) #[] #[])) (exact⟨whole _ fJ,(ah kp).1 0,(ah kp).1 2⟩) (first
   |(go_at_call 218;refine(hR _ aJ).mono ?_;rintro e w2 ⟨g,rfl,hg,hge,hx⟩;have fJ:=kE hx fJ;have kp:=kE hx kp;have aJ:=aJ.trans (hx.mono aJ.size);clear hx hR)
   |(go_at_call 119;refine(mJ g _ ws J _ hJ hl (jV hg) h0 (Nat.le_refl _) hn).mono ?_;rintro e w3 ⟨rfl,hx⟩;have fJ:=kE hx fJ;have kp:=kE hx kp;have aJ:=aJ.trans (hx.mono aJ.size);clear hx))
  all_goals go_wp2
  all_goals go_ret
  all_goals exact⟨rfl,aJ⟩
 ·go_simp
  have ha:=heap_alloc_new W0.drew (.cells #[.string ⟨#[]⟩,.nilFunc,.nilFunc] 204)
  have dZ:=(Below.heap_alloc W0.drew (.cells #[.string ⟨#[]⟩,.nilFunc,.nilFunc] 204) w.heap.size hlt).trans kb
  have aK:Below w.heap.size w (W0.drew.alloc (.cells #[.string ⟨#[]⟩,.nilFunc,.nilFunc] 204)):=hall.drew.alloc hall.size _
  refine hK.out _ _ ((ah dZ).1 4) (fun hHeld=> ?_)
  clear hK K
  try simp only[au]
  refine wpAnyH_ready (rs:=[0]) (by kernel_rfl) (by simp) ?_
  refine aI (some 4) rfl rfl (fun K hK=> ?_) AllReadyH.nil
  go_simp
  refine(fH _).mono ?_
  rintro e w1 ⟨rfl,hx⟩
  have jh:=(hx.block w.heap.size (lO dZ)).trans dZ
  have ha:=kE hx ha
  have bY:Below w.heap.size w w1:=aK.trans (hx.mono aK.size)
  refine hK.out _ _ ((ah jh).1 4) (fun hHeld=> ?_)
  clear hK K hx
  try simp only[au]
  refine tJ 4 8 rfl rfl ?_
  try simp only[au]
  obtain⟨W,hst,kp,hg⟩:=aG _ W0.heap.size _ 204 _ #[.string ⟨#[97,108,111,110,103]⟩,.func (.func 217) #[] #[],.func (.func 218) #[] #[]] ha fO rfl (by simp[Value.oneCell'])
  have fJ:W.heap[w.heap.size]?=_:=(hg.block _ (lO jh) (by simp;omega)).trans jh
  have aJ:Below w.heap.size w W:=bY.grown hg bY.size (fun k e=>by cases e;exact hall.size)
  clear hall aK bY kb dZ jh ha hg
  refine wpAnyH_ready (rs:=[6]) (by kernel_rfl) (by simp) ?_
  refine aI none rfl rfl (fun K hK=> ?_) AllReadyH.nil
  go_simp
  refine hK.out _ _ ((ah fJ).1 4) (fun hHeld=> ?_)
  clear hK K
  try simp only[au]
  refine wpAnyH_done (by kernel_rfl) ?_ _
  clear hHeld hix q0
  have aJ:=aJ.drew
  have kp:=(show W.drew.heap[W0.heap.size]?=_ from kp)
  have fJ:=(show W.drew.heap[w.heap.size]?=_ from fJ)
  go_wp2
  go_region_held3 (fun W=>(loadVar 128 ⟨w.heap.size,0,none⟩).run prog W=.ok (.agg (bG A1 A2 A3 A4 c1 c2 c3 c4 f 4 c)) W∧W.cell? ⟨W0.heap.size,0,none⟩=some (.string ⟨#[97,108,111,110,103]⟩)∧W.cell? ⟨W0.heap.size,2,none⟩=some (.func (.func 218) #[] #[])) (exact⟨whole _ fJ,(ah kp).1 0,(ah kp).1 2⟩) (first
   |(go_at_call 218;refine(hR _ aJ).mono ?_;rintro e w2 ⟨g,rfl,hg,hge,hx⟩;have fJ:=kE hx fJ;have kp:=kE hx kp;have aJ:=aJ.trans (hx.mono aJ.size);clear hx hR)
   |(go_at_call 119;refine(mJ g _ ws J _ hJ hl (jV hg) h0 (Nat.le_refl _) hn).mono ?_;rintro e w3 ⟨rfl,hx⟩;have fJ:=kE hx fJ;have kp:=kE hx kp;have aJ:=aJ.trans (hx.mono aJ.size);clear hx))
  all_goals go_wp2
  all_goals go_ret
  all_goals exact⟨rfl,aJ⟩
theorem GU (c:Pl.aZ)(ws:List ByteArray)(J:List UInt8)(w:World)(hJ:Hid (Lib.join (ws.map (·.data.toList)) [32]=J))(hl:J.length<=1000000)(h0:0<ws.length)(hn:ws.length<=100)
  (hR: ∀W,Below w.heap.size w W->Calls prog 220 #[.agg (bG A1 A2 A3 A4 c1 c2 c3 c4 f 5 c)] W (zA ws W)):
  Calls prog 91 #[.agg (bG A1 A2 A3 A4 c1 c2 c3 c4 f 5 c)] w fun e w'=>e=.returned (.string ⟨([108,101,118,101,108,32]++J).toArray⟩)∧Below w.heap.size w w':=by
 have kb:=heap_alloc_new w (.cells (bG A1 A2 A3 A4 c1 c2 c3 c4 f 5 c) 128)
 have hall:Below w.heap.size w (w.alloc (.cells (bG A1 A2 A3 A4 c1 c2 c3 c4 f 5 c) 128)):=(Below.refl _ w).alloc (Nat.le_refl _) _
 have hix: ∀W,(Instr.index 205 (.agg #[.string ⟨#[]⟩,.nilFunc,.nilFunc,.string ⟨#[115,116,111,110,101]⟩,.func (.func 211) #[] #[],.func (.func 212) #[] #[],.string ⟨#[119,105,100,116,104]⟩,.func (.func 213) #[] #[],.func (.func 214) #[] #[],.string ⟨#[99,111,117,114,115,101]⟩,.func (.func 215) #[] #[],.func (.func 216) #[] #[],.string ⟨#[97,108,111,110,103]⟩,.func (.func 217) #[] #[],.func (.func 218) #[] #[],.string ⟨#[108,101,118,101,108]⟩,.func (.func 219) #[] #[],.func (.func 220) #[] #[]]) (.int .u8 5)).run prog W=.ok (.agg #[.string ⟨#[108,101,118,101,108]⟩,.func (.func 219) #[] #[],.func (.func 220) #[] #[]]) W:=fun _=>by kernel_rfl
 have IX: ∀W,(Op.stringOp .add ⟨#[108,101,118,101,108]⟩ ⟨#[32]⟩).run prog W=.ok (.string ⟨#[108,101,118,101,108,32]⟩) W:=fun _=>by kernel_rfl
 have IY: ∀W,(Op.stringOp .add ⟨#[108,101,118,101,108,32]⟩ ⟨J.toArray⟩).run prog W=.ok (.string ⟨([108,101,118,101,108,32]++J).toArray⟩) W:=fun W=>by
  rw[run_string_add W ⟨#[108,101,118,101,108,32]⟩ ⟨J.toArray⟩ (by decide) (by rw[nR];omega),show(⟨#[108,101,118,101,108,32]⟩:ByteArray)=⟨([108,101,118,101,108,32]:List UInt8).toArray⟩ from rfl,dh]
  simp
 have hlt:=lO kb
 have q0:=(ah kb).1 4
 have whole:=fun(W:World) (k:W.heap[w.heap.size]?=some (.cells (bG A1 A2 A3 A4 c1 c2 c3 c4 f 5 c) 128 (0,0)))=>ay.whole (ay.mk (f:=f) (c:=c) (k:=5) k)
 go_enter func91,ntmps91
 go_wp2
 generalize w.alloc (.cells (bG A1 A2 A3 A4 c1 c2 c3 c4 f 5 c) 128)=W0 at*
 refine wp_region_held_drew (S:=fun W=>W.cell? ⟨w.heap.size,4,none⟩=some (.int .u8 5)) (by kernel_rfl) q0 (fun hHeld=> ?_)
 refine tJ 1 5 rfl rfl ?_
 try simp only[au]
 refine tJ 2 6 rfl rfl ?_
 try simp only[au]
 refine tJ 3 7 rfl rfl ?_
 try simp only[au]
 refine wpAnyH_ready (rs:=[0,5]) (by kernel_rfl) (by simp) ?_
 refine aI (some 4) rfl rfl (fun K hK=> ?_) (aI (some 3) rfl rfl (fun K hK=> ?_) AllReadyH.nil)
 ·go_simp
  refine(fH _).mono ?_
  rintro e w1 ⟨rfl,hx⟩
  have dZ:=(hx.block w.heap.size hlt).trans kb
  have aK:Below w.heap.size w w1:=hall.drew.trans (hx.mono hall.size)
  refine hK.out _ _ ((ah dZ).1 4) (fun hHeld=> ?_)
  clear hK K hx kb hall
  try simp only[au]
  refine tJ 4 8 rfl rfl ?_
  try simp only[au]
  refine wpAnyH_ready (rs:=[5]) (by kernel_rfl) (by simp) ?_
  refine aI (some 3) rfl rfl (fun K hK=> ?_) AllReadyH.nil
  go_simp
  have ha:=heap_alloc_new w1 (.cells #[.string ⟨#[]⟩,.nilFunc,.nilFunc] 204)
  have jh:=(Below.heap_alloc w1 (.cells #[.string ⟨#[]⟩,.nilFunc,.nilFunc] 204) w.heap.size (lO dZ)).trans dZ
  have bY:Below w.heap.size w (w1.alloc (.cells #[.string ⟨#[]⟩,.nilFunc,.nilFunc] 204)):=aK.alloc aK.size _
  refine hK.out _ _ ((ah jh).1 4) (fun hHeld=> ?_)
  clear hK K
  try simp only[au]
  obtain⟨W,hst,kp,hg⟩:=aG _ w1.heap.size _ 204 _ #[.string ⟨#[108,101,118,101,108]⟩,.func (.func 219) #[] #[],.func (.func 220) #[] #[]] ha fO rfl (by simp[Value.oneCell'])
  have fJ:W.heap[w.heap.size]?=_:=(hg.block _ (lO jh) (by have:=lO dZ;simp;omega)).trans jh
  have aJ:Below w.heap.size w W:=bY.grown hg bY.size (fun k e=>by cases e;exact aK.size)
  refine wpAnyH_ready (rs:=[6]) (by kernel_rfl) (by simp) ?_
  refine aI none rfl rfl (fun K hK=> ?_) AllReadyH.nil
  go_simp
  refine hK.out _ _ ((ah fJ).1 4) (fun hHeld=> ?_)
  clear hK K
  try simp only[au]
  refine wpAnyH_done (by kernel_rfl) ?_ _
  clear hHeld hix q0
  have aJ:=aJ.drew
  have kp:=(show W.drew.heap[w1.heap.size]?=_ from kp)
  have fJ:=(show W.drew.heap[w.heap.size]?=_ from fJ)
  go_wp2
  go_region_held3 (fun W=>(loadVar 128 ⟨w.heap.size,0,none⟩).run prog W=.ok (.agg (bG A1 A2 A3 A4 c1 c2 c3 c4 f 5 c)) W∧W.cell? ⟨w1.heap.size,0,none⟩=some (.string ⟨#[108,101,118,101,108]⟩)∧W.cell? ⟨w1.heap.size,2,none⟩=some (.func (.func 220) #[] #[])) (exact⟨whole _ fJ,(ah kp).1 0,(ah kp).1 2⟩) (first
   |(go_at_call 220;refine(hR _ aJ).mono ?_;rintro e w2 ⟨g,rfl,hg,hge,hx⟩;have fJ:=kE hx fJ;have kp:=kE hx kp;have aJ:=aJ.trans (hx.mono aJ.size);clear hx hR)
   |(go_at_call 119;refine(mJ g _ ws J _ hJ hl (jV hg) h0 (Nat.le_refl _) hn).mono ?_;rintro e w3 ⟨rfl,hx⟩;have fJ:=kE hx fJ;have kp:=kE hx kp;have aJ:=aJ.trans (hx.mono aJ.size);clear hx))
  all_goals go_wp2
  all_goals go_ret
  all_goals exact⟨rfl,aJ⟩
 ·go_simp
  have ha:=heap_alloc_new W0.drew (.cells #[.string ⟨#[]⟩,.nilFunc,.nilFunc] 204)
  have dZ:=(Below.heap_alloc W0.drew (.cells #[.string ⟨#[]⟩,.nilFunc,.nilFunc] 204) w.heap.size hlt).trans kb
  have aK:Below w.heap.size w (W0.drew.alloc (.cells #[.string ⟨#[]⟩,.nilFunc,.nilFunc] 204)):=hall.drew.alloc hall.size _
  refine hK.out _ _ ((ah dZ).1 4) (fun hHeld=> ?_)
  clear hK K
  try simp only[au]
  refine wpAnyH_ready (rs:=[0]) (by kernel_rfl) (by simp) ?_
  refine aI (some 4) rfl rfl (fun K hK=> ?_) AllReadyH.nil
  go_simp
  refine(fH _).mono ?_
  rintro e w1 ⟨rfl,hx⟩
  have jh:=(hx.block w.heap.size (lO dZ)).trans dZ
  have ha:=kE hx ha
  have bY:Below w.heap.size w w1:=aK.trans (hx.mono aK.size)
  refine hK.out _ _ ((ah jh).1 4) (fun hHeld=> ?_)
  clear hK K hx
  try simp only[au]
  refine tJ 4 8 rfl rfl ?_
  try simp only[au]
  obtain⟨W,hst,kp,hg⟩:=aG _ W0.heap.size _ 204 _ #[.string ⟨#[108,101,118,101,108]⟩,.func (.func 219) #[] #[],.func (.func 220) #[] #[]] ha fO rfl (by simp[Value.oneCell'])
  have fJ:W.heap[w.heap.size]?=_:=(hg.block _ (lO jh) (by simp;omega)).trans jh
  have aJ:Below w.heap.size w W:=bY.grown hg bY.size (fun k e=>by cases e;exact hall.size)
  clear hall aK bY kb dZ jh ha hg
  refine wpAnyH_ready (rs:=[6]) (by kernel_rfl) (by simp) ?_
  refine aI none rfl rfl (fun K hK=> ?_) AllReadyH.nil
  go_simp
  refine hK.out _ _ ((ah fJ).1 4) (fun hHeld=> ?_)
  clear hK K
  try simp only[au]
  refine wpAnyH_done (by kernel_rfl) ?_ _
  clear hHeld hix q0
  have aJ:=aJ.drew
  have kp:=(show W.drew.heap[W0.heap.size]?=_ from kp)
  have fJ:=(show W.drew.heap[w.heap.size]?=_ from fJ)
  go_wp2
  go_region_held3 (fun W=>(loadVar 128 ⟨w.heap.size,0,none⟩).run prog W=.ok (.agg (bG A1 A2 A3 A4 c1 c2 c3 c4 f 5 c)) W∧W.cell? ⟨W0.heap.size,0,none⟩=some (.string ⟨#[108,101,118,101,108]⟩)∧W.cell? ⟨W0.heap.size,2,none⟩=some (.func (.func 220) #[] #[])) (exact⟨whole _ fJ,(ah kp).1 0,(ah kp).1 2⟩) (first
   |(go_at_call 220;refine(hR _ aJ).mono ?_;rintro e w2 ⟨g,rfl,hg,hge,hx⟩;have fJ:=kE hx fJ;have kp:=kE hx kp;have aJ:=aJ.trans (hx.mono aJ.size);clear hx hR)
   |(go_at_call 119;refine(mJ g _ ws J _ hJ hl (jV hg) h0 (Nat.le_refl _) hn).mono ?_;rintro e w3 ⟨rfl,hx⟩;have fJ:=kE hx fJ;have kp:=kE hx kp;have aJ:=aJ.trans (hx.mono aJ.size);clear hx))
  all_goals go_wp2
  all_goals go_ret
  all_goals exact⟨rfl,aJ⟩
end Go.Proofs
namespace Go.Proofs
open Tryz RowKit
variable (A1 A2 A3 A4 : Option Addr) (c1 c2 c3 c4 : Nat) (f : Pl.aL)
attribute [-go_sem] run_equalIn_agg loadVar storeVar
attribute [local go_sem] bZ bH dU aT
theorem uE {f:Pl.aL}{i:Int}{n:Nat}(h:i=(n:Int))(hn:n<f.li.length):Pl.Fg f i=f.li[n]:=by
 unfold Pl.Fg
 rw[h,Int.toNat_natCast,List.getElem?_eq_getElem hn]
theorem pO {f:Pl.aL}{i:Int}{n:Nat}(h:i=(n:Int))(hn:n<f.st.length):Pl.Cw f i=f.st[n].1:=by
 unfold Pl.Cw
 rw[h,Int.toNat_natCast,List.getElem?_eq_getElem hn]
theorem MX {f:Pl.aL}{c:Pl.aZ}{k:ByteArray}{ws:List ByteArray}(h:Pl.fV f c=k::ws)(h0:0<ws.length):(⟨((k.data.toList++[(32:UInt8)])++Lib.join (ws.map (fun x:ByteArray=>x.data.toList)) [32]).toArray⟩:ByteArray)=Pl.n_ f c:=by
 unfold Pl.n_ Pl.eZ Pl.q9
 rw[h]
 cases ws with
 |nil=>simp at h0
 |cons a r=>simp[Lib.join]
theorem tu {f:Pl.aL}{c:Pl.aZ}{k:ByteArray}{ws:List ByteArray}{b:List UInt8}{F:FuncId}{A:Array Value}{w:World}(h:Pl.fV f c=k::ws)(h0:0<ws.length)(hb:b=k.data.toList++[(32:UInt8)])(hc:Calls prog F A w fun e w'=>e=.returned (.string ⟨(b++Lib.join (ws.map (fun x:ByteArray=>x.data.toList)) [32]).toArray⟩)∧Below w.heap.size w w'):
  Calls prog F A w fun e w'=>e=.returned (.string (Pl.n_ f c))∧Below w.heap.size w w':=by
 subst hb
 rw[MX h h0]at hc
 exact hc
theorem RX (c:Pl.aZ)(w:World)(hE:Env w)(hf:bB w w.heap.size A1 A2 A3 A4 f)(hF:Pl.aR f=0)(hC:Pl.fP f c=0):
  Calls prog 91 #[.agg (jB A1 A2 A3 A4 c1 c2 c3 c4 f c)] w fun e w'=>e=.returned (.string (Pl.n_ f c))∧Below w.heap.size w w':=by
 have hok:=Pl.iV hF
 have ht:=Pl.Ad hC
 have hcr:c.kind=3->c.aB.ok=true:=fun hk=>(Pl.uT hC hk).1
 have hsz:=Pl.yD hok ht hcr
 obtain⟨dA,hlim⟩: ∃n:Nat,c.lim=n:=⟨c.lim.toNat,by have:=ht.1;unfold Pl.mO at this;omega⟩
 have jD:dA<f.li.length:=by have:=ht.1;unfold Pl.mO at this;omega
 obtain⟨iP,hfr⟩: ∃n:Nat,c.fr=n:=⟨c.fr.toNat,by have:=ht.2.1;unfold Pl.mO at this;omega⟩
 have tL:iP<f.st.length:=by have:=ht.2.1;unfold Pl.mO at this;omega
 have a1:=uE hlim jD
 have a2:=pO hfr tL
 have hsm: ∀(k:ByteArray) (ws:List ByteArray),Pl.fV f c=k::ws->ws.length<=100->(Lib.join (ws.map (·.data.toList)) [32]).length<=1000000:=fun k ws e hl=>by
  have:=Pl.yC (ws:=ws) (n:=200) fun x hx=>hsz x (by rw[e];simp[hx])
  omega
 have ez:(-1000000<=c.size∧c.size<=1000000)∧ -1000000<=c.er∧c.er<=1000000:=by have s:=ht.2.2;omega
 have far:c.kind=3∨c.kind=4∨c.kind=5-> ∃n:Nat,c.till=n∧n<f.st.length:=fun hk=>by
  have:=Pl.sV ht hk
  unfold Pl.mO at this
  exact⟨c.till.toNat,by omega,by omega⟩
 have bL:c.kind=2∨c.kind=4-> ∃n:Nat,c.bL=n∧n<f.li.length:=fun hk=>by
  have:=Pl.vZ ht hk
  unfold Pl.mO at this
  exact⟨c.bL.toNat,by omega,by omega⟩
 rcases Pl.yB ht with hk|hk|hk|hk|hk
 ·have e:Pl.fV f c=Pl.bq::[f.li[dA],f.st[iP].1,Pl.spelt c.size,Pl.spelt c.er]:=by unfold Pl.fV;rw[if_pos hk,a1,a2]
  have h:=GN A1 A2 A3 A4 c1 c2 c3 c4 f c _ _ w (Lib.hid rfl) (hsm _ _ e (by simp)) (by simp) (by simp) (fun W hW=>by have:=Cb A1 A2 A3 A4 c1 c2 c3 c4 f c W (hE.up hW) (hf.up hW) dA iP hlim jD hfr tL ez.1 ez.2;rw[hk]at this;exact this)
  rw[hk]
  exact tu e (by simp) rfl h
 ·obtain⟨jy,hoth,pJ⟩:=bL (.inl hk)
  have e:Pl.fV f c=Pl.bA::[f.li[dA],f.li[jy],f.st[iP].1,Pl.spelt c.size,Pl.spelt c.er]:=by unfold Pl.fV;rw[if_neg (by omega),if_pos hk,a1,a2,uE hoth pJ]
  have h:=GQ A1 A2 A3 A4 c1 c2 c3 c4 f c _ _ w (Lib.hid rfl) (hsm _ _ e (by simp)) (by simp) (by simp) (fun W hW=>by have:=Ce A1 A2 A3 A4 c1 c2 c3 c4 f c W (hE.up hW) (hf.up hW) dA jy iP hlim jD hoth pJ hfr tL ez.1 ez.2;rw[hk]at this;exact this)
  rw[hk]
  exact tu e (by simp) rfl h
 ·obtain⟨cZ,fI,gH⟩:=far (.inl hk)
  obtain⟨⟨r0,r1⟩,⟨n0,n1⟩,⟨l0,l1⟩,_,⟨x0,x1⟩,s0,s1⟩:=Pl.bF.mF (hcr hk)
  have e:Pl.fV f c=Pl.aV::[f.li[dA],f.st[iP].1,f.st[cZ].1,Pl.aY c.aB.l,⟨#[98,121]⟩,Pl.mD c.aB.b,⟨#[103,105,118,101]⟩,Pl.spelt c.aB.n,⟨#[119,101,97,114]⟩,Pl.spelt c.aB.x,⟨#[115,108,97,99,107]⟩,Pl.spelt c.aB.s]:=by
   unfold Pl.fV;rw[if_neg (by omega),if_neg (by omega),if_pos hk,a1,a2,pO fI gH];rfl
  have h:=EP A1 A2 A3 A4 c1 c2 c3 c4 f c _ _ w (Lib.hid rfl) (hsm _ _ e (by simp)) (by simp) (by simp) (fun W hW=>by have:=zB A1 A2 A3 A4 c1 c2 c3 c4 f c W (hE.up hW) (hf.up hW) dA iP cZ hlim jD hfr tL fI gH (by omega) (by omega) (by omega);rw[hk]at this;exact this)
  rw[hk]
  exact tu e (by simp) rfl h
 ·obtain⟨cZ,fI,gH⟩:=far (.inr (.inl hk))
  obtain⟨jy,hoth,pJ⟩:=bL (.inr hk)
  have e:Pl.fV f c=Pl.bC::[f.li[dA],f.li[jy],f.st[iP].1,f.st[cZ].1]:=by unfold Pl.fV;rw[if_neg (by omega),if_neg (by omega),if_neg (by omega),if_pos hk,a1,a2,uE hoth pJ,pO fI gH]
  have h:=GR A1 A2 A3 A4 c1 c2 c3 c4 f c _ _ w (Lib.hid rfl) (hsm _ _ e (by simp)) (by simp) (by simp) (fun W hW=>by have:=Cg A1 A2 A3 A4 c1 c2 c3 c4 f c W (hE.up hW) (hf.up hW) dA jy iP cZ hlim jD hoth pJ hfr tL fI gH;rw[hk]at this;exact this)
  rw[hk]
  exact tu e (by simp) rfl h
 ·obtain⟨cZ,fI,gH⟩:=far (.inr (.inr hk))
  have e:Pl.fV f c=Pl.bg::[f.li[dA],f.st[iP].1,f.st[cZ].1,Pl.spelt c.size,Pl.spelt c.er]:=by unfold Pl.fV;rw[if_neg (by omega),if_neg (by omega),if_neg (by omega),if_neg (by omega),a1,a2,pO fI gH]
  have h:=GU A1 A2 A3 A4 c1 c2 c3 c4 f c _ _ w (Lib.hid rfl) (hsm _ _ e (by simp)) (by simp) (by simp) (fun W hW=>by have:=Ch A1 A2 A3 A4 c1 c2 c3 c4 f c W (hE.up hW) (hf.up hW) dA iP cZ hlim jD hfr tL fI gH ez.1 ez.2;rw[hk]at this;exact this)
  rw[hk]
  exact tu e (by simp) rfl h
noncomputable def Pl.lM (f:Pl.aL)(c:Pl.aZ):ByteArray:=if Pl.aM f c=0 then Pl.n_ f c else ⟨#[]⟩
theorem ER (c:Pl.aZ)(w:World)(hE0:Env w)(hf:bB w w.heap.size A1 A2 A3 A4 f)(hm:Small f)(hc:dY c1 c2 c3 c4 f)(hk:c.kind<=255):
  Calls prog 29 #[.agg (fq A1 A2 A3 A4 c1 c2 c3 c4 f),.agg (kq c)] w fun e w'=>e=.returned (.tuple #[.string (Pl.lM f c),.int .i64 (Pl.aM f c)])∧Below w.heap.size w w':=by
 have kf:=heap_alloc2_old w (.cells (fq A1 A2 A3 A4 c1 c2 c3 c4 f) 28) (.cells (kq c) 48)
 have kc:=heap_alloc2_new w (.cells (fq A1 A2 A3 A4 c1 c2 c3 c4 f) 28) (.cells (kq c) 48)
 have hall:Below w.heap.size w ((w.alloc (.cells (fq A1 A2 A3 A4 c1 c2 c3 c4 f) 28)).alloc (.cells (kq c) 48)):=((Below.refl _ w).alloc (Nat.le_refl _) _).alloc (by simp) _
 have iw:=ak kf underlying28 rfl av
 have gZ:=ak kc underlying48 rfl aj
 have pk:=fun W (hW:Below w.heap.size w W)=>uQ A1 A2 A3 A4 c1 c2 c3 c4 f c W (hf.up hW) hm hc hk
 obtain⟨E,hE⟩: ∃E,Pl.aM f c=E:=⟨_,rfl⟩
 by_cases h0:E=0
 ·subst h0
  have hF:Pl.aR f=0:=by
   unfold Pl.aM at hE
   split at hE
   ·assumption
   ·exact absurd hE ‹_›
  have hC:Pl.fP f c=0:=by
   unfold Pl.aM at hE
   rw[if_pos hF]at hE
   exact hE
  have pl:=fun W (hW:Below w.heap.size w W)=>RX A1 A2 A3 A4 c1 c2 c3 c4 f c W (hE0.up hW) (hf.up hW) hF hC
  have HV:Hid (Pl.lM f c=Pl.n_ f c):=Lib.hid (by unfold Pl.lM;rw[if_pos hE])
  rw[HV.out,hE]
  obtain⟨u,hu⟩: ∃u,Pl.n_ f c=u:=⟨_,rfl⟩
  rw[hu]at pl ⊢
  rw[hE]at pk
  clear hE HV hu hF hC hf hm hc
  go_enter func29,ntmps29
  go_wp2_with (first
   |(go_at_call 38;refine(pk _ hall).mono ?_;rintro e w1 ⟨rfl,hx⟩;have kf:=kE hx kf;have kc:=kE hx kc;have hall:Below w.heap.size w w1:=hall.trans (hx.mono hall.size);clear iw gZ;have iw:=ak kf underlying28 rfl av;have gZ:=ak kc underlying48 rfl aj;clear hx)
   |(go_at_call 91;refine(pl _ hall).mono ?_;rintro e w2 ⟨rfl,hx⟩;have hall:Below w.heap.size w w2:=hall.trans (hx.mono hall.size);clear hx))
  go_ret2
  exact⟨rfl,hall⟩
 ·have HV:Hid (Pl.lM f c=⟨#[]⟩):=Lib.hid (by unfold Pl.lM;rw[if_neg (by rw[hE];exact h0)])
  rw[HV.out,hE]
  rw[hE]at pk
  have hne:(E !=0)=true:=by simpa using h0
  clear hE HV h0
  go_enter func29,ntmps29
  go_wp2_with (go_at_call 38;refine(pk _ hall).mono ?_;rintro e w1 ⟨rfl,hx⟩;have hall:Below w.heap.size w w1:=hall.trans (hx.mono hall.size);clear hx)
  go_ret2
  exact⟨rfl,hall⟩
