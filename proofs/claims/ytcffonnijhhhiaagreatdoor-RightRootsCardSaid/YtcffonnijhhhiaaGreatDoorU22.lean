/- Part U22 of the proof: FdD Ln Bx Lw Lv. -/
import Derived.Test.YtcffonnijhhhiaaGreatDoorProg
import Derived.WalkKit
import Derived.WalkLawsBesides
import Derived.WalkSpells
import Derived.Handy
import Derived.Lib.Hide
import Derived.Great.BuildSlice
import Derived.Deep.QuietTactic
import Derived.BigQuiet
import Derived.Deep.RegionHeld3
import Derived.Deep.DeepCutAuto
import Derived.Test.YtcffonnijhhhiaaGreatDoorU16
import Derived.Test.YtcffonnijhhhiaaGreatDoorU21
import Derived.Test.YtcffonnijhhhiaaGreatDoorU07
import Derived.Test.YtcffonnijhhhiaaGreatDoorU19
set_option linter.all false
set_option linter.unusedSimpArgs false
set_option linter.unusedVariables false
set_option linter.unusedSectionVars false
namespace Go.Proofs.YtcffonnijhhhiaaGreatDoor
open Go Go.RowKit Go.Maps Mp
attribute [-go_sem] loadVar storeVar
attribute [local go_sem] lk_int
abbrev rowD (p:Dp):Array Value:=xcs p.x p.A1 p.A2 p.c1 p.c2
theorem ld_D {w:World}{B:Nat}{A:Option Addr}{l:List Dp}(h:Seg encD 11 w B A l){k:Nat}(hk:k<l.length): ∃b off,A=some ⟨b,off,none⟩∧b<B∧(loadVar 24 ⟨b,off+k*11,none⟩).run Tryz.prog w=.ok (.agg (rowD l[k])) w:=by
 obtain⟨b,off,hA,hb,hc⟩:=h.at_ hk
 exact⟨b,off,hA,hb,run_loadVar_mid w b (off+k*11) 24 (encD l[k]) _ (fun j v hv=>hc j v hv) Tryz.underlying24 rfl info_deal⟩
set_option maxRecDepth 100000 in
theorem idxF_D (A:Option Addr)(c:Nat)(l:List Dp)(g:FuncId)(cap:Array Value)(p:Dp→Bool)(w:World)(hl:Seg encD 11 w w.heap.size A l)(hm:l.length≤1000000)
  (hen: ∀args w,(callFunc g args).run Tryz.prog w=.ok (.enter g args) w)
  (hp: ∀x∈l,∀W,Below w.heap.size w W→Calls Tryz.prog g (#[.agg (rowD x)]++cap) W fun e W'=>e=.returned (.bool (p x))∧Below W.heap.size W W'):
  Calls Tryz.prog 184 #[.slice A l.length c,.func (.func g) #[] cap] w fun e w'=>e=.returned (.int .i64 (Rt.pos (Rt.idx p l)))∧Below w.heap.size w w':=by
 have HL:=Lib.hid hl
 clear hl
 go_enter Tryz.func184,Tryz.ntmps184
 go_wp2
 go_loopw [8] (fun i wr=> ∃(k:Nat),k≤l.length∧i=.int .i64 k∧Hid (∀j (h:j<l.length),j<k→p l[j]=false)∧Below w.heap.size w wr) (fun i _=>l.length-(intOf i).toNat)
 case atStart=>exact⟨0,by omega,rfl,Lib.hid fun j _ h=>by omega,by go_grown⟩
 case round=>
  obtain⟨k,hk,rfl,hg,hb⟩:=hrel
  have hsz:=hb.size
  by_cases hlt:k<l.length
  ·obtain⟨b,off,rfl,hbB,q0⟩:=ld_D (HL.out.below hb) hlt
   have hpk:=Lib.hid (hp l[k] (List.getElem_mem hlt))
   cases hc:p l[k]with
   |true=>
    have hv:=Lib.hid (Rt.idx_hit (p:=p) hlt (fun j hj=>hg.out j (by omega) hj) hc)
    have HC:=Lib.hid hc
    clear hc
    go_wp2
    refine(hpk.out _ (by go_grown)).mono ?_
    rintro e w2 ⟨rfl,hx⟩
    rw[HC.out]
    have hb2:Below w.heap.size w w2:=Below.trans (by go_grown) (hx.mono (by go_size))
    clear hx
    go_wp2
    go_ret
    exact⟨by rw[hv.out];try rfl,hb2⟩
   |false=>
    have HC:=Lib.hid hc
    clear hc
    go_wp2
    refine(hpk.out _ (by go_grown)).mono ?_
    rintro e w2 ⟨rfl,hx⟩
    rw[HC.out]
    have hb2:Below w.heap.size w w2:=Below.trans (by go_grown) (hx.mono (by go_size))
    clear hx
    go_wp2
    go_roundw
    case rel=>exact⟨k+1,by omega,by go_num,Lib.hid fun j h hj=>by
     by_cases e:j=k
     ·subst e;exact HC.out
     ·exact hg.out j h (by omega),hb2⟩
    case measure=>first|(simp[intOf];done)|(simp[intOf];omega)
  ·have hv:=Lib.hid (Rt.idx_none (p:=p) (l:=l) fun j hj=>hg.out j hj (by omega))
   go_wp2
   go_ret
   exact⟨by rw[hv.out];try rfl,hb⟩
set_option maxRecDepth 100000 in
set_option maxHeartbeats 4000000 in
theorem delF_D (A:Option Addr)(c:Nat)(L:List Dp)(g:FuncId)(cap:Array Value)(p:Dp→Bool)(w:World)(hl:Seg encD 11 w w.heap.size A L)(hm:L.length≤1000000)(hcp:L.length≤c)(hk: ∀a,A=some a→ ∃cs,w.heap[a.block]?=some (.cells cs 24 (0,0)))
  (hen: ∀args w,(callFunc g args).run Tryz.prog w=.ok (.enter g args) w)
  (hp : ∀ x ∈ L, ∀ W, w.grownBy W (A.map (·.block)) → Calls Tryz.prog g (#[.agg (rowD x)] ++ cap) W fun e W' => e = .returned (.bool (p x)) ∧ Below W.heap.size W W') :
  Calls Tryz.prog 120 #[.slice A L.length c, .func (.func g) #[] cap] w fun e w' => e = .returned (.slice A (L.filter fun x => !p x).length c) ∧ Seg encD 11 w' w'.heap.size A (L.filter fun x => !p x) ∧ w.grownBy w' (A.map (·.block)) ∧ (∀ a, A = some a → ∃ cs, w'.heap[a.block]? = some (.cells cs 24 (0, 0))) := by
 have hix:=idxF_D A c L g cap p w hl hm hen (fun x hx W hW=>hp x hx W ((grownBy_of_below hW).but _))
 have HP:=Lib.hid hp
 have HL:=Lib.hid hl
 have HK:=Lib.hid hk
 clear hp hl hk
 cases hi:Rt.idx p L with
 |none=>
  have hall:L.filter (fun x=> !p x)=L:=List.filter_eq_self.2 (fun x hx=>by
   have:=idx_no hi x hx
   simp[this])
  rw[hall]
  rw[hi]at hix
  have hq:(Rt.pos none== -1)=true:=rfl
  clear hi hall
  go_enter Tryz.func120,Tryz.ntmps120
  go_wp2_with fail
  refine hix.mono ?_
  rintro e w1 ⟨rfl,hb⟩
  go_wp2
  go_ret
  exact⟨rfl,HL.out.up hb,(grownBy_of_below hb).but _,fun a ha=>by
   obtain⟨cs,h⟩:=HK.out a ha
   exact⟨cs,(hb.block _ (Array.getElem?_eq_some_iff.1 h).1).trans h⟩⟩
 |some k0=>
  obtain⟨hk0,hp0,hlow⟩:=idx_some hi
  rw[hi]at hix
  have hq:(Rt.pos (some k0)== -1)=false:=by unfold Rt.pos;simp
  have hpos:Rt.pos (some k0)=(k0:Int):=rfl
  rw[hpos]at hix hq
  obtain⟨gb,off,hA,hgb,_⟩:=HL.out.at_ hk0
  subst hA
  obtain⟨cs0,hcs0⟩:=HK.out _ rfl
  have HS:=Lib.hid (Kept.start hk0 hp0 hlow)
  simp only[Option.map_some]at HP ⊢
  clear hi hp0 hlow hpos
  go_enter Tryz.func120,Tryz.ntmps120
  go_wp2_with fail
  refine hix.mono ?_
  clear hix
  rintro e w1 ⟨rfl,hb⟩
  have g1:w.grownBy w1 (some gb):=grown_below gb hb
  have hb1: ∃cs,w1.heap[gb]?=some (.cells cs 24 (0,0)):=⟨cs0,(hb.block _ hgb).trans hcs0⟩
  have hs1:=HL.out.up hb
  go_wp2
  go_loopw [5,6] (fun s5 s6 wr=> ∃(i j:Nat) (M:List Dp),s5=.int .i64 i∧s6=.int .i64 j∧Hid (Kept p L i j M)∧Hid (Seg encD 11 wr wr.heap.size (some ⟨gb,off,none⟩) M)∧w.grownBy wr (some gb)∧Hid (∃cs,wr.heap[gb]?=some (.cells cs 24 (0,0)))) (fun _ s6 _=>L.length-(intOf s6).toNat)
  case atStart=>exact⟨k0,k0+1,L,rfl,by go_num,HS,Lib.hid hs1,g1,Lib.hid hb1⟩
  case round=>
   obtain⟨i,j,M,rfl,rfl,HKp,HSg,hg,HB⟩:=hrel
   have hij:=HKp.out.lt
   have hjl:=HKp.out.le
   have hml:=HKp.out.len
   by_cases hlt:j<L.length
   ·obtain⟨hjM,hMj⟩:=HKp.out.at_ hlt
    obtain⟨b,off',hA,hbB,q0⟩:=ld_D HSg.out hjM
    cases hA
    rw[hMj]at q0
    have hcall:=HP.out L[j] (List.getElem_mem hlt)
    have hxm:=hMj
    clear hMj
    obtain⟨x,hx⟩: ∃x,L[j]=x:=⟨_,rfl⟩
    rw[hx]at q0 hcall
    obtain⟨w4,st4,k4,g4⟩:=st_row (wr.alloc (.cells zcs 24)) wr.heap.size 24 24 zcs (rowD x) (heap_alloc_new wr _) info_deal rfl (by simp[Value.oneCell'])
    have b4:Below wr.heap.size wr w4:=(Below.alloc (Below.refl _ wr) (Nat.le_refl _) _).grown g4 (by simp) (by intro k e;cases e;omega)
    have l4:=ld_row k4 Tryz.underlying24 rfl info_deal
    have gg4:w.grownBy w4 (some gb):=grown_up hg b4
    have hc4:=hcall w4 gg4
    cases hpx:p x with
    |true=>
     rw[hpx]at hc4
     have HPX:=Lib.hid hpx
     clear hpx hcall
     go_wp2_with fail
     refine hc4.mono ?_
     rintro e w5 ⟨rfl,b5⟩
     have b5':Below wr.heap.size wr w5:=b4.trans (b5.mono b4.size)
     go_wp2
     go_roundw
     case rel=>exact⟨i,j+1,M,rfl,by go_num,Lib.hid (HKp.out.skip hlt (by rw[hx];exact HPX.out)),Lib.hid (HSg.out.up b5'),grown_up hg b5',Lib.hid (by obtain⟨cs,h⟩:=HB.out;exact⟨cs,(b5'.block _ (Array.getElem?_eq_some_iff.1 h).1).trans h⟩)⟩
     case measure=>first|(simp[intOf];done)|(simp[intOf];omega)
    |false=>
     rw[hpx]at hc4
     have HPX:=Lib.hid hpx
     clear hpx hcall
     go_wp2_with fail
     refine hc4.mono ?_
     rintro e w5 ⟨rfl,b5⟩
     have b5':Below wr.heap.size wr w5:=b4.trans (b5.mono b4.size)
     have HS5:=Lib.hid (HSg.out.up b5')
     have HB5:Hid (∃cs,w5.heap[gb]?=some (.cells cs 24 (0,0))):=Lib.hid (by obtain⟨cs,h⟩:=HB.out;exact⟨cs,(b5'.block _ (Array.getElem?_eq_some_iff.1 h).1).trans h⟩)
     have l5:=ld_row ((b5.block _ (Array.getElem?_eq_some_iff.1 k4).1).trans k4) Tryz.underlying24 rfl info_deal
     have hth:=seg_there (i:=i) (n:=11) layD.henc layD.hs HS5.out HB5.out (by omega)
     obtain⟨w6,st6,e6,g6,h6⟩: ∃w6,(storeVar 24 ⟨gb,off+i*11,none⟩ (.agg (rowD x))).run Tryz.prog w5=.ok () w6∧Hid (Seg encD 11 w6 w6.heap.size (some ⟨gb,off,none⟩) (M.set i x))∧w5.grownBy w6 (some gb)∧Hid (∃cs,w6.heap[gb]?=some (.cells cs 24 (0,0))):=
      ⟨_,run_storeVar_mid (P:=Tryz.prog) w5 gb (off+i*11) 24 (rowD x) hth info_deal (by simp[Value.oneCell']),Lib.hid (by rw[(gscs _ _ _ _).2];exact seg_set (i:=i) layD.henc layD.hs HS5.out HB5.out (by omega) x),(gscs _ _ _ _).1,Lib.hid (hscs _ _ _ HB5.out)⟩
     go_wp2
     go_roundw
     case rel=>exact⟨i+1,j+1,M.set i L[j],by go_num,by go_num,Lib.hid (HKp.out.keep hlt (by rw[hx];exact HPX.out)),(by rw[hx];exact e6),(grown_up hg b5').trans g6,h6⟩
     case measure=>first|(simp[intOf];done)|(simp[intOf];omega)
   ·obtain rfl:j=L.length:=by omega
    obtain⟨hd1,hd2⟩:=HKp.out.done
    obtain⟨w7,hcl,g7,h7,s7⟩:=clear_law (i:=i) (n:=L.length-i) (c:=c-i) layD Tryz.zeroValue24 (by simp[Value.cells,Value.oneCell']) HSg.out HB.out (by omega) (by omega)
    have hic: ¬c=i:=by omega
    rw[hd1]at s7
    have HD2:=Lib.hid hd2
    have HS7:=Lib.hid s7
    have HB7:=Lib.hid h7
    clear s7 h7 hd1 hd2
    go_wp2
    go_ret
    exact⟨by rw[HD2.out];rfl,HS7.out.more g7.size,hg.trans g7,fun a ha=>by cases ha;exact HB7.out⟩
end Go.Proofs.YtcffonnijhhhiaaGreatDoor
namespace Go.Proofs.Rt
def makes (x:Deal)(n:Int):Bool:=if x.kind=1∨x.kind=4 then x.lot==n else if x.kind=3 then x.into.contains n else false
def follow (l:List Deal):Nat→Int→List Nat×List Int→List Nat×List Int
 |0,_,q=>q
 |f+1,n,q=>match idx (fun x=>makes x n) l with
  |none=>q
  |some at_=>
   let x:=l.getD at_ default
   let r:=if x.kind=1∧ !q.2.contains n then q.2++[n]else q.2
   if q.1.contains at_ then (q.1,r)else
   if x.kind=3 then follow l f x.lot (q.1++[at_],r)
   else if x.kind=4 then x.into.foldl (fun q m=>follow l f m q) (q.1++[at_],r)
   else (q.1++[at_],r)
end Go.Proofs.Rt
namespace Go.Proofs.YtcffonnijhhhiaaGreatDoor
open Go Go.RowKit Go.Maps Mp
attribute [-simp] Prod.forall Prod.exists
attribute [-go_sem] loadVar storeVar Builtin.append_
attribute [local go_sem] lk_int lk_u8 lk_ints lk_state lk_ids
set_option maxRecDepth 100000 in
set_option maxHeartbeats 1000000 in
theorem makes_a (x:Dl)(A1 A2:Option Addr)(c1 c2:Nat)(n:Int)(w:World)(hx:DS w w.heap.size A1 A2 x):
  Calls Tryz.prog 222 #[.agg (xcs x A1 A2 c1 c2),.int .i64 n] w fun e w'=>e=.returned (.bool (Rt.makes x n))∧Below w.heap.size w w':=by
 have b1:Below w.heap.size w (w.alloc (oDl x A1 A2 c1 c2)):=by go_grown
 have k1:=heap_alloc_new w (oDl x A1 A2 c1 c2)
 obtain⟨hc,hf⟩:=blk_cells k1
 have hx1:=hx.up b1
 have hh:=hasI_a A1 c1 x.into n _ hx1.into (by have:=hx.li;omega)
 obtain⟨r,hr⟩: ∃r,Rt.makes x n=r:=⟨_,rfl⟩
 rw[hr]
 unfold Rt.makes at hr
 have hk2:(0:Int)≤(x.kind:Int):=by omega
 clear hx hx1
 by_cases h1:x.kind=1
 ·rw[if_pos (.inl h1)]at hr
  have HR:=Lib.hid hr
  have q1:((x.kind:Int)==1)=true:=by rw[h1];rfl
  clear hr h1
  go_enter Tryz.func222,Tryz.ntmps222
  go_wp2
  go_ret
  exact⟨by rw[←HR.out];rfl,b1⟩
 by_cases h4:x.kind=4
 ·rw[if_pos (.inr h4)]at hr
  have HR:=Lib.hid hr
  have q1:((x.kind:Int)==1)=false:=by rw[h4];rfl
  have q4:((x.kind:Int)==4)=true:=by rw[h4];rfl
  clear hr h1 h4
  go_enter Tryz.func222,Tryz.ntmps222
  go_wp2
  go_ret
  exact⟨by rw[←HR.out];rfl,b1⟩
 rw[if_neg (by rintro(h|h);exact h1 h;exact h4 h)]at hr
 have q1:((x.kind:Int)==1)=false:=beq_eq_false_iff_ne.2 (by omega)
 have q4:((x.kind:Int)==4)=false:=beq_eq_false_iff_ne.2 (by omega)
 by_cases h3:x.kind=3
 ·rw[if_pos h3]at hr
  rw[hr]at hh
  have q3:((x.kind:Int)==3)=true:=by rw[h3];rfl
  clear hr h1 h4 h3
  go_enter Tryz.func222,Tryz.ntmps222
  go_wp2_with (go_at_call 53;refine hh.mono ?_;rintro e w' ⟨rfl,rfl⟩)
  go_ret
  exact⟨rfl,b1⟩
 ·rw[if_neg h3]at hr
  subst hr
  have q3:((x.kind:Int)==3)=false:=beq_eq_false_iff_ne.2 (by omega)
  clear h1 h4 h3
  go_enter Tryz.func222,Tryz.ntmps222
  go_wp2
  go_ret
  exact⟨rfl,b1⟩
set_option maxRecDepth 100000 in
theorem line11_a (p:Dp)(n:Int)(b:Nat)(w:World)(hx:DS w w.heap.size p.A1 p.A2 p.x)(hb:w.heap[b]?=some (.cells #[.int .i64 n] 3 (0,0))):
  Calls Tryz.prog 221 (#[.agg (rowD p)]++ #[.pointer (some ⟨b,0,none⟩)]) w fun e w'=>e=.returned (.bool (Rt.makes p.x n))∧Below w.heap.size w w':=by
 have b1:Below w.heap.size w (w.alloc (oDl p.x p.A1 p.A2 p.c1 p.c2)):=by go_grown
 have k1:=heap_alloc_new w (oDl p.x p.A1 p.A2 p.c1 p.c2)
 have l1:=ld_row k1 Tryz.underlying24 rfl info_deal
 obtain⟨hc,hf⟩:=blk_cells ((b1.block _ (Array.getElem?_eq_some_iff.1 hb).1).trans hb)
 have hm:=makes_a p.x p.A1 p.A2 p.c1 p.c2 n _ (hx.up b1)
 clear hx
 go_enter Tryz.func221,Tryz.ntmps221
 go_wp2_with fail
 refine hm.mono ?_
 rintro e w2 ⟨rfl,b2⟩
 go_wp2
 go_ret
 exact⟨rfl,b1.trans (b2.mono (by simp))⟩
end Go.Proofs.YtcffonnijhhhiaaGreatDoor
namespace Go.Proofs.YtcffonnijhhhiaaGreatDoor
open Go Go.RowKit Go.Maps Mp
structure GrowN (N b:Nat)(w w':World):Prop where
 os:w'.os=w.os
 tape:w'.tape=w.tape
 output:w'.output=w.output
 size:w.heap.size≤w'.heap.size
 block: ∀i,i<N→i≠b→w'.heap[i]?=w.heap[i]?
theorem GrowN.refl (N b:Nat)(w:World):GrowN N b w w:=⟨rfl,rfl,rfl,Nat.le_refl _,fun _ _ _=>rfl⟩
theorem GrowN.trans {N b:Nat}{w w1 w2:World}(h:GrowN N b w w1)(k:GrowN N b w1 w2):GrowN N b w w2:=
 ⟨k.os.trans h.os,k.tape.trans h.tape,k.output.trans h.output,Nat.le_trans h.size k.size,fun i hi hb=>(k.block i hi hb).trans (h.block i hi hb)⟩
theorem GrowN.of {N b:Nat}{w w':World}(h:Below N w w'):GrowN N b w w':=⟨h.os,h.tape,h.output,h.size,fun i hi _=>h.block i hi⟩
theorem GrowN.below {N b n:Nat}{w w':World}(h:GrowN N b w w')(h1:n≤N)(h2:n≤b):Below n w w':=⟨h.os,h.tape,h.output,h.size,fun i hi=>h.block i (by omega) (by omega)⟩
theorem GrowN.less {N M b:Nat}{w w':World}(h:GrowN N b w w')(hM:M≤N):GrowN M b w w':=⟨h.os,h.tape,h.output,h.size,fun i hi=>h.block i (by omega)⟩
section
variable {α : Type} {enc : α → List Value} {ST ET : TypeId} {z : Value} {size bytes : Nat}
theorem box_push (L:Lay enc ST ET z size bytes)(hST: ∀w,(Go.sizeOf ST).run Tryz.prog w=.ok 1 w){W w5:World}{N b1 j:Nat}{T:TypeId}{cs:Array Value}{v:Value}{l:List α}
  (hbox:W.heap[b1]?=some (.cells cs T (0,0))) (hj:j<cs.size) (ho:W.ownsRow N ET size v l.length (l.flatMap enc)) (hb1:b1<N) (hN:N≤W.heap.size) (hb:Below W.heap.size W w5) (x:α) (row:Array Value) (hrow:row.toList=enc x)
  (hm:l.length+1≤3000000000000) (hby:bytes≤40):
  ∃g' c2 w6 W7,(Builtin.append_ #[ST,ST] ST #[v,.slice (some ⟨w5.heap.size,0,none⟩) 1 1]).run Tryz.prog (w5.alloc (.cells row ET))=.ok (.slice (some ⟨g',0,none⟩) (l.length+1) c2) w6∧
   (storeVar ST ⟨b1,j,none⟩ (.slice (some ⟨g',0,none⟩) (l.length+1) c2)).run Tryz.prog w6=.ok () W7∧GrowN N b1 W w6∧w6.heap[b1]?=some (.cells cs T (0,0))∧
   W7.heap[b1]?=some (.cells (cs.setIfInBounds j (.slice (some ⟨g',0,none⟩) (l.length+1) c2)) T (0,0))∧W7.ownsRow N ET size (.slice (some ⟨g',0,none⟩) (l.length+1) c2) (l.length+1) ((l++[x]).flatMap enc)∧
   GrowN N b1 W W7∧(v.ownBlock=some g'∨w5.heap.size<g')∧w5.heap.size≤W7.heap.size∧(∀i,i<w5.heap.size→some i≠v.ownBlock→i≠b1→W7.heap[i]?=w5.heap[i]?)∧ ∀i,i<w5.heap.size→some i≠v.ownBlock→w6.heap[i]?=w5.heap[i]?:=by
 have hz5:=hb.size
 have hr:=own_below (hb:=hb) ho
 obtain⟨i0,hi0,hz0,hz1,hz2⟩:=info_parts L.hi
 have hcell: ∀j u,(enc x)[j]?=some u→(w5.alloc (.cells row ET)).cell? ((⟨w5.heap.size,0,none⟩:Addr).add j)=some u:=by
  intro j u hj
  rw[Go.WideShapes.add_plain,Nat.zero_add,(blk_cells (World.alloc_heap_new w5 (.cells row ET))).1,←Array.getElem?_toList,hrow]
  exact hj
 obtain⟨v',w6,hrun,hown,hgrow,_,hob⟩:=run_append_own_at (P:=Tryz.prog) (w:=w5.alloc (.cells row ET)) N ST ST ET i0 _ size bytes L.ht hi0 hz0 hz1 hz2 L.hz L.hs v l.length (l.flatMap enc) (hr.alloc _) ⟨w5.heap.size,0,none⟩ 1 1 (enc x)
  (by rw[L.henc,Nat.one_mul]) hcell (L.hone x) (by unfold maxLen;omega) (Nat.le_trans (Nat.mul_le_mul hm hby) (by decide)) (by simp only[World.size_alloc];omega)
 rw[show(l.flatMap enc)++enc x=(l++[x]).flatMap enc by simp]at hown
 obtain⟨g',c2,rfl⟩:=ownsRow_succ hown
 have hg':=(hown.lt g' rfl).1
 have hv: ∀i,i<N→some i≠v.ownBlock:=fun i hi e=>by have:=(ho.lt i e.symm).1;omega
 have keep: ∀i,i<w5.heap.size→some i≠v.ownBlock→w6.heap[i]?=w5.heap[i]?:=fun i hi hne=>(hgrow.block i (by simp only[World.size_alloc];omega) hne).trans (Below.heap_alloc _ _ i hi)
 have k6:w6.heap[b1]?=some (.cells cs T (0,0)):=(keep b1 (by omega) (hv b1 hb1)).trans ((hb.block b1 (by omega)).trans hbox)
 have s6:=hgrow.size
 simp only[World.size_alloc]at s6
 have st:=st_slice (A:=some ⟨g',0,none⟩) (n:=l.length+1) (c:=c2) hST k6 hj
 have g7:=gsc w6 ⟨b1,j,none⟩ (.slice (some ⟨g',0,none⟩) (l.length+1) c2)
 have hG6:GrowN N b1 W w6:=⟨hgrow.os.trans hb.os,hgrow.tape.trans hb.tape,hgrow.output.trans hb.output,by omega,fun i hi hne=>(keep i (by omega) (hv i hi)).trans (hb.block i (by omega))⟩
 refine⟨g',c2,w6,_,hrun,st,hG6,k6,hsc (j:=j) _ k6,hown.kept g7 (.inr fun e=> ?_),hG6.trans ⟨g7.os,g7.tape,g7.output,g7.size,fun i hi hne=>g7.block i (by omega) (by simpa using hne)⟩,?_,by have:=g7.size;omega,fun i hi hne hne2=>(g7.block i (by omega) (by simpa using hne2)).trans (keep i hi hne),keep⟩
 ·have:g'=b1:=Option.some.inj e
  omega
 ·rcases hob with e|e
  ·exact .inl e.symm
  ·right
   have:g'=(w5.alloc (.cells row ET)).heap.size:=Option.some.inj e
   simp at this
   omega
end
end Go.Proofs.YtcffonnijhhhiaaGreatDoor
namespace Go.Proofs.Rt
theorem idx_map {α β:Type}(f:α→β)(p:β→Bool)(l:List α):idx p (l.map f)=idx (fun x=>p (f x)) l:=by
 induction l with
 |nil=>rfl
 |cons a l ih=>simp only[List.map_cons,idx,ih]
end Go.Proofs.Rt
namespace Go.Proofs.YtcffonnijhhhiaaGreatDoor
open Go Go.RowKit Go.Maps Mp
attribute [-simp] Prod.forall Prod.exists
attribute [-go_sem] loadVar storeVar Builtin.append_
theorem lk_bools (a:Addr)(w:World):(loadVar 127 a).run Tryz.prog w=(load a).run Tryz.prog w:=lv_scalar Tryz.underlying127 rfl a w
theorem lk_deals (a:Addr)(w:World):(loadVar 34 a).run Tryz.prog w=(load a).run Tryz.prog w:=lv_scalar Tryz.underlying34 rfl a w
theorem lk_fun (a:Addr)(w:World):(loadVar 237 a).run Tryz.prog w=(load a).run Tryz.prog w:=lv_scalar Tryz.underlying237 rfl a w
attribute [local go_sem] lk_int lk_u8 lk_ints lk_bools lk_deals lk_fun
abbrev capF (b:Nat):Array Value:= #[.pointer (some ⟨b,0,none⟩),.pointer (some ⟨b+2,0,none⟩),.pointer (some ⟨b+4,0,none⟩),.pointer (some ⟨b+1,0,none⟩),.pointer (some ⟨b+5,0,none⟩)]
structure LN (w:World)(b:Nat)(W:World)(A:Option Addr)(c:Nat)(L:List Dp)(P:List Nat)(R:List Int)(v u:Value):Prop where
 bl:W.heap[b]?=some (.cells #[.slice A L.length c] 34 (0,0))
 fw:W.heap[b+5]?=some (.cells #[.func (.func 220) #[] (capF b)] 237 (0,0))
 sb:W.heap[b+4]?=some (.cells #[.map (some (b+3))] 127 (0,0))
 sm:FM ekI okI W (b+3) (fU fun n=>P.any fun p:Nat=>(p:Int)==n)
 pb:W.heap[b+1]?=some (.cells #[v] 22 (0,0))
 po:W.ownsRow (b+6) 3 1 v P.length ((P.map fun p:Nat=>(p:Int)).flatMap encInt)
 rb:W.heap[b+2]?=some (.cells #[u] 22 (0,0))
 ro:W.ownsRow (b+6) 3 1 u R.length (R.flatMap encInt)
 ne: ∀g,v.ownBlock=some g→u.ownBlock≠some g
 bel:Below w.heap.size w W
 wb:w.heap.size≤b
 up:b+6≤W.heap.size
 pl: ∀p∈P,p<L.length
 pn:P.Nodup
 rl : ∀ r ∈ R, r ∈ (dls L).map (·.lot)
 rn:R.Nodup
section
variable {w W W' w5 : World} {b : Nat} {A : Option Addr} {c : Nat} {L : List Dp} {P : List Nat} {R : List Int} {v u : Value}
theorem LN.below (h:LN w b W A c L P R v u)(hb:Below W.heap.size W W'):LN w b W' A c L P R v u:=by
 have hu:=h.up
 exact⟨(hb.block _ (by omega)).trans h.bl,(hb.block _ (by omega)).trans h.fw,(hb.block _ (by omega)).trans h.sb,h.sm.same (hb.block _ h.sm.lt),(hb.block _ (by omega)).trans h.pb,own_below h.po hb,(hb.block _ (by omega)).trans h.rb,own_below h.ro hb,h.ne,h.bel.trans (hb.mono h.bel.size),h.wb,Nat.le_trans hu hb.size,h.pl,h.pn,h.rl,h.rn⟩
theorem LN.few (h:LN w b W A c L P R v u):P.length≤L.length∧R.length≤L.length:=by
 constructor
 ·have h1:=h.pn.length_le_of_subset (l₂:=List.range L.length) (fun p hp=>List.mem_range.2 (h.pl p hp))
  simpa using h1
 ·have h1 := h.rn.length_le_of_subset (l₂ := (dls L).map (·.lot)) (fun p hp => h.rl p hp)
  simpa using h1
theorem LN.root (h : LN w b W A c L P R v u) (hm : L.length ≤ 1000000) {n : Int} (hn : n ∈ (dls L).map (·.lot)) (hr : n ∉ R) :
  ∃g' c2 w6 W7,(Builtin.append_ #[22,22] 22 #[u,.slice (some ⟨W.heap.size,0,none⟩) 1 1]).run Tryz.prog (W.alloc (.cells #[.int .i64 n] 3))=.ok (.slice (some ⟨g',0,none⟩) (R.length+1) c2) w6∧
   (storeVar 22 ⟨b+2,0,none⟩ (.slice (some ⟨g',0,none⟩) (R.length+1) c2)).run Tryz.prog w6=.ok () W7∧LN w b W7 A c L P (R++[n]) v (.slice (some ⟨g',0,none⟩) (R.length+1) c2)∧(∀i,b+6≤i→i<W.heap.size→u.ownBlock≠some i→W7.heap[i]?=W.heap[i]?)∧(u.ownBlock=some g'∨W.heap.size<g')∧W.heap.size≤W7.heap.size:=by
 have hu:=h.up
 have hf:=h.few
 have hw:=h.wb
 obtain⟨g',c2,w6,W7,h1,h2,h3,_,h5,h6,h7,h8,h9,h10,_⟩:=box_push layI Tryz.sizeOf22 (j:=0) h.rb (by simp) h.ro (show b+2<b+6 by omega) hu (Below.refl _ W) n #[.int .i64 n] rfl (by omega) (by decide)
 have k: ∀i,i<b+6→i≠b+2→W7.heap[i]?=W.heap[i]?:=h7.block
 refine⟨g',c2,w6,W7,h1,h2,⟨(k _ (by omega) (by omega)).trans h.bl,(k _ (by omega) (by omega)).trans h.fw,(k _ (by omega) (by omega)).trans h.sb,h.sm.same (k _ (by omega) (by omega)),(k _ (by omega) (by omega)).trans h.pb,own_same h.po (fun g e=>h10 g (h.po.lt g e).2 (fun e2=>h.ne g e e2.symm) (by have:=(h.po.lt g e).1;omega)),by simpa using h5,by rw[List.length_append];exact h6,fun g e e2=> ?_,h.bel.trans (h7.below (by omega) (by omega)),hw,Nat.le_trans hu h7.size,h.pl,h.pn,fun r hr'=> ?_,?_⟩,fun i hi hlt hne=>h10 i hlt (fun e=>hne e.symm) (by omega),h8,h7.size⟩
 ·have e3:g'=g:=Option.some.inj e2
  rcases h8 with e4|e4
  ·rw[e3]at e4;exact h.ne g e e4
  ·have:=(h.po.lt g e).2;omega
 ·rcases List.mem_append.1 hr' with hr'|hr'
  ·exact h.rl r hr'
  ·rw[List.mem_singleton.1 hr'];exact hn
 ·rw[List.nodup_append]
  exact⟨h.rn,by simp,fun a ha b hb e=>by rw[List.mem_singleton.1 hb]at e;exact hr (e▸ha)⟩
theorem LN.mark (h:LN w b W A c L P R v u)(hm:L.length≤1000000){a:Nat}(ha:a<L.length)(hp:a∉P):
  ∃w8 g' c2 w6 W7,(Instr.mapUpdate 127 (.map (some (b+3))) (.int .i64 (a:Int)) (.bool true)).run Tryz.prog W=.ok () w8∧w8.heap.size=W.heap.size∧(∀i,i≠b+3→i<W.heap.size→w8.heap[i]?=W.heap[i]?)∧
   (Builtin.append_ #[22,22] 22 #[v,.slice (some ⟨w8.heap.size,0,none⟩) 1 1]).run Tryz.prog (w8.alloc (.cells #[.int .i64 (a:Int)] 3))=.ok (.slice (some ⟨g',0,none⟩) (P.length+1) c2) w6∧
   (storeVar 22 ⟨b+1,0,none⟩ (.slice (some ⟨g',0,none⟩) (P.length+1) c2)).run Tryz.prog w6=.ok () W7∧LN w b W7 A c L (P++[a]) R (.slice (some ⟨g',0,none⟩) (P.length+1) c2) u∧(∀i,b+6≤i→i<W.heap.size→v.ownBlock≠some i→W7.heap[i]?=W.heap[i]?):=by
 have hu:=h.up
 have hf:=h.few
 have hw:=h.wb
 have hok:okI (a:Int):=by unfold okI;omega
 obtain⟨w8,hrun,hfm,hg,hz⟩:=h.sm.update kI Tryz.underlying127 hok (.bool true)
 have k8: ∀i,i≠b+3→i<W.heap.size→w8.heap[i]?=W.heap[i]?:=fun i hne hi=>hg.block i hi (by simpa using hne)
 have o8:w8.ownsRow (b+6) 3 1 v P.length ((P.map fun p:Nat=>(p:Int)).flatMap encInt):=own_same h.po fun g e=>k8 g (by have:=(h.po.lt g e).1;omega) (h.po.lt g e).2
 have r8:w8.ownsRow (b+6) 3 1 u R.length (R.flatMap encInt):=own_same h.ro fun g e=>k8 g (by have:=(h.ro.lt g e).1;omega) (h.ro.lt g e).2
 have e1:(P.map fun p:Nat=>(p:Int)).length=P.length:=by simp
 rw[←e1]at o8
 obtain⟨g',c2,w6,W7,h1,h2,h3,_,h5,h6,h7,h8,h9,h10,_⟩:=box_push layI Tryz.sizeOf22 (j:=0) ((k8 _ (by omega) (by omega)).trans h.pb) (by simp) o8 (show b+1<b+6 by omega) (by omega) (Below.refl _ w8) (a:Int) #[.int .i64 (a:Int)] rfl (by rw[e1];omega) (by decide)
 rw[e1]at h1 h2 h5 h6
 have k: ∀i,i<b+6→i≠b+1→i≠b+3→W7.heap[i]?=W.heap[i]?:=fun i hi h1 h3=>(h7.block i hi h1).trans (k8 i h3 (by omega))
 have hbw:Below w.heap.size w w8:=h.bel.grown hg h.bel.size (fun k e=>by cases e;omega)
 refine⟨w8,g',c2,w6,W7,hrun,hz,k8,h1,h2,⟨(k _ (by omega) (by omega) (by omega)).trans h.bl,(k _ (by omega) (by omega) (by omega)).trans h.fw,(k _ (by omega) (by omega) (by omega)).trans h.sb,?_,by simpa using h5,by rw[List.length_append,List.map_append];exact h6,(k _ (by omega) (by omega) (by omega)).trans h.rb,own_same r8 (fun g e=>h10 g (by have:=(h.ro.lt g e).2;omega) (fun e2=>h.ne g e2.symm e) (by have:=(h.ro.lt g e).1;omega)),fun g e e2=> ?_,hbw.trans (h7.below (by omega) (by omega)),hw,by have:=h7.size;omega,fun p hp'=> ?_,?_,h.rl,h.rn⟩,fun i hi hlt hne=>(h10 i (by omega) (fun e=>hne e.symm) (by omega)).trans (k8 i (by omega) hlt)⟩
 ·have e:upd (fU fun n=>P.any fun p:Nat=>(p:Int)==n) (a:Int) (some (.bool true))=fU fun n=>(P++[a]).any fun p:Nat=>(p:Int)==n:=by
   funext m
   show(if m=(a:Int)then some (Value.bool true)else if (P.any fun p:Nat=>(p:Int)==m)then some (Value.bool true)else none)=if ((P++[a]).any fun p:Nat=>(p:Int)==m)then some (Value.bool true)else none
   by_cases e:m=(a:Int)
   ·subst e;simp
   ·have e2:((a:Int)==m)=false:=by simpa using fun h=>e h.symm
    rw[if_neg e,List.any_append]
    simp[e2]
  rw[←e]
  exact hfm.same (h7.block _ (by omega) (by omega))
 ·have e3:g'=g:=Option.some.inj e
  rcases h8 with e4|e4
  ·rw[e3]at e4;exact h.ne g e4 e2
  ·have:=(h.ro.lt g e2).2;omega
 ·rcases List.mem_append.1 hp' with hp'|hp'
  ·exact h.pl p hp'
  ·rw[List.mem_singleton.1 hp'];exact ha
 ·rw[List.nodup_append]
  exact⟨h.pn,by simp,fun x hx y hy e=>by rw[List.mem_singleton.1 hy]at e;exact hp (e▸hx)⟩
end
end Go.Proofs.YtcffonnijhhhiaaGreatDoor
namespace Go.Proofs.YtcffonnijhhhiaaGreatDoor
open Go Go.RowKit Go.Maps Mp
attribute [-simp] Prod.forall Prod.exists
attribute [-go_sem] loadVar storeVar Builtin.append_
attribute [local go_sem] lk_int lk_u8 lk_ints lk_bools lk_deals lk_fun
theorem any_nat (P:List Nat)(a:Nat):(P.any fun p:Nat=>(p:Int)==(a:Int))=P.contains a:=by
 induction P with
 |nil=>rfl
 |cons p P ih=>
  rw[List.any_cons,ih,List.contains_cons]
  congr 1
  rw[Bool.eq_iff_iff]
  simp only[beq_iff_eq]
  omega
theorem follow_end {l:List Dl}{f:Nat}{n:Int}{q:List Nat×List Int}(h:Rt.idx (fun x=>Rt.makes x n) l=none):Rt.follow l (f+1) n q=q:=by unfold Rt.follow;rw[h]
theorem follow_at {l:List Dl}{f:Nat}{n:Int}{q:List Nat×List Int}{a:Nat}(h:Rt.idx (fun x=>Rt.makes x n) l=some a)(ha:a<l.length){r:List Int}(hr:r=if l[a].kind=1∧ !q.2.contains n then q.2++[n]else q.2):
  Rt.follow l (f+1) n q=if q.1.contains a then (q.1,r)else if l[a].kind=3 then Rt.follow l f l[a].lot (q.1++[a],r)else if l[a].kind=4 then l[a].into.foldl (fun q m=>Rt.follow l f m q) (q.1++[a],r)else (q.1++[a],r):=by
 have e:l.getD a default=l[a]:=by simp[ha]
 conv=>lhs;unfold Rt.follow
 rw[h]
 simp only[e,←hr]
theorem Rt.follow_len (l:List Dl): ∀(f:Nat) (n:Int) (q:List Nat×List Int),q.1.length≤(Rt.follow l f n q).1.length:=by
 intro f
 induction f with
 |zero=>intro n q;exact Nat.le_refl _
 |succ f ih=>
  intro n q
  have key: ∀(m:List Int) (q:List Nat×List Int),q.1.length≤(m.foldl (fun q m=>Rt.follow l f m q) q).1.length:=by
   intro m
   induction m with
   |nil=>intro q;exact Nat.le_refl _
   |cons x m ih2=>intro q;rw[List.foldl_cons];exact Nat.le_trans (ih x q) (ih2 _)
  conv=>rhs;unfold Rt.follow
  cases h:Rt.idx (fun x=>Rt.makes x n) l with
  |none=>exact Nat.le_refl _
  |some a=>
   dsimp only
   split
   ·exact Nat.le_refl _
   split
   ·exact Nat.le_trans (by simp) (ih _ _)
   split
   ·exact Nat.le_trans (by simp) (key _ _)
   ·simp
def EndF (w:World)(b:Nat)(A:Option Addr)(c:Nat)(L:List Dp)(Q:List Nat×List Int)(e:Ending)(W':World):Prop:=e=.returned (.tuple #[])∧ ∃v u,LN w b W' A c L Q.1 Q.2 v u
set_option maxRecDepth 100000 in
set_option maxHeartbeats 8000000 in
theorem line1_a {w:World}{b:Nat}{A:Option Addr}{c:Nat}{L:List Dp}(hL:Dls w w.heap.size A L)(hm:L.length≤1000000): ∀(f:Nat) (n:Int) (P:List Nat) (R:List Int) (v u:Value) (W:World),LN w b W A c L P R v u→L.length<f+P.length→
  Calls Tryz.prog 220 (#[.int .i64 n]++capF b) W (EndF w b A c L (Rt.follow (dls L) f n (P,R))):=by
 intro f
 induction f with
 |zero=>intro n P R v u W h hf;exact absurd h.few.1 (by omega)
 |succ f ih=>
 intro n P R v u W h hf
 obtain⟨Q,hQ⟩: ∃Q,Rt.follow (dls L) (f+1) n (P,R)=Q:=⟨_,rfl⟩
 rw[hQ]
 have b0:Below W.heap.size W (W.alloc (.cells #[.int .i64 n] 3)):=by go_grown
 have h0:=h.below b0
 have kn:=heap_alloc_new W (.cells #[.int .i64 n] 3)
 have q0:=(blk_cells h0.bl).1 0
 have hix:=idxF_D A c L 221 #[.pointer (some ⟨W.heap.size,0,none⟩)] (fun p=>Rt.makes p.x n) (W.alloc (.cells #[.int .i64 n] 3)) (hL.seg.up h0.bel) hm (enters_of Tryz.func221 (by kernel_rfl) rfl) (fun p hp V hV=>line11_a p n W.heap.size V ((hL.each p hp).1.up (h0.bel.trans (hV.mono h0.bel.size))) ((hV.block _ (by simp)).trans kn))
 have hid:Rt.idx (fun x=>Rt.makes x n) (dls L)=Rt.idx (fun p:Dp=>Rt.makes p.x n) L:=Rt.idx_map _ _ _
 obtain⟨oo,ho⟩: ∃oo,Rt.idx (fun p:Dp=>Rt.makes p.x n) L=oo:=⟨_,rfl⟩
 rw[ho]at hix
 have IH:=Lib.hid ih
 have HL:=Lib.hid hL
 have HF:=Lib.hid hf
 have hup:=h.up
 have hvl: ∀g,v.ownBlock=some g→g<W.heap.size:=fun g e=>(h.po.lt g e).2
 have hul: ∀g,u.ownBlock=some g→g<W.heap.size:=fun g e=>(h.ro.lt g e).2
 have HV:=Lib.hid hvl
 have HU:=Lib.hid hul
 have hap: ∀(a:Int),(#[.int .i64 a]++capF b:Array Value)= #[.int .i64 a,.pointer (some ⟨b,0,none⟩),.pointer (some ⟨b+2,0,none⟩),.pointer (some ⟨b+4,0,none⟩),.pointer (some ⟨b+1,0,none⟩),.pointer (some ⟨b+5,0,none⟩)]:=fun a=>rfl
 clear ih hL hf hvl hul
 cases oo with
 |none=>
  have hQ2:Q=(P,R):=by rw[←hQ];exact follow_end (hid.trans ho)
  subst hQ2
  have hq:(Rt.pos none:Int)= -1:=rfl
  rw[hq]at hix
  clear hQ ho hid
  go_enter Tryz.func220,Tryz.ntmps220
  go_wp2_with fail
  refine hix.mono ?_
  rintro e w2 ⟨rfl,b2⟩
  go_wp2
  go_end0
  exact⟨rfl,v,u,h0.below b2⟩
 |some a=>
  have ha:=Rt.idx_lt ho
  obtain⟨_,hmk,_⟩:=idx_some ho
  have haL:a<(dls L).length:=by simpa using ha
  have hga:(dls L)[a]=L[a].x:=by simp
  have HQ:=Lib.hid (fun(r:List Int) (hr:r=if L[a].x.kind=1∧ !R.contains n then R++[n]else R)=>(follow_at (f:=f) (q:=(P,R)) (hid.trans ho) haL (r:=r) (by rw[hga];exact hr)).symm.trans hQ)
  rw[hga]at HQ
  have hq:(Rt.pos (some a):Int)=(a:Int):=rfl
  rw[hq]at hix
  have hmemL:L[a].x∈dls L:=List.mem_map_of_mem (List.getElem_mem ha)
  clear hQ ho hid hq haL hga
  go_enter Tryz.func220,Tryz.ntmps220
  go_wp2_with fail
  refine hix.mono ?_
  clear hix q0
  rintro e w2 ⟨rfl,b2⟩
  have h2:=h0.below b2
  obtain⟨b',off,hA,hbb,hld,hds,_,_⟩:=(HL.out.below h2.bel).at_ ha
  obtain⟨p,hp⟩: ∃p,L[a]=p:=⟨_,rfl⟩
  rw[hp]at hld hds hmk HQ hmemL
  have HD:Hid (DS w w.heap.size p.A1 p.A2 p.x):=Lib.hid (by rw[←hp];exact(HL.out.each _ (List.getElem_mem ha)).1)
  have hup2:W.heap.size+1≤w2.heap.size:=by have:=b2.size;simpa using this
  obtain⟨w4,st4,k4,g4⟩:=st_row (w2.alloc (.cells zcs 24)) w2.heap.size 24 24 zcs (xcs p.x p.A1 p.A2 p.c1 p.c2) (heap_alloc_new w2 _) info_deal rfl (by simp[Value.oneCell'])
  have b4:Below w2.heap.size w2 w4:=(Below.alloc (Below.refl _ w2) (Nat.le_refl _) _).grown g4 (by simp) (by intro k e;cases e;omega)
  have h4:=h2.below b4
  have kn4:=(b4.block _ (by omega)).trans ((b2.block _ (by simp)).trans kn)
  have ql:=(blk_cells h2.bl).1 0
  have z4:=b4.size
  have hz1:=(Array.getElem?_eq_some_iff.1 k4).1
  have e1:=(blk_cells k4).1 2
  have e2:=(blk_cells kn4).1 0
  have e3:=(blk_cells h4.rb).1 0
  have K4:=Lib.hid k4
  subst hA
  clear h h0 h2 g4 kn b0 hp k4 kn4
  by_cases hk1:p.x.kind=1
  ·have hlot:p.x.lot=n:=by
    unfold Rt.makes at hmk
    rw[if_pos (.inl hk1)]at hmk
    simpa using hmk
   have hnm : n ∈ (dls L).map (·.lot) := List.mem_map.2 ⟨p.x, hmemL, hlot⟩
   have qk:((p.x.kind:Int)==1)=true:=by rw[hk1];rfl
   have qk3:((p.x.kind:Int)==3)=false:=by rw[hk1];rfl
   have qk4:((p.x.kind:Int)==4)=false:=by rw[hk1];rfl
   obtain⟨Au,cu,rfl,hsu,_,_⟩:=own_seg layI h4.ro
   have hcn:=hasI_a Au cu R n w4 hsu (by have:=h4.few.2;omega)
   clear hsu
   cases hcon:R.contains n with
   |true=>
    rw[hcon]at hcn
    have HQ2:=Lib.hid (HQ.out R (by rw[hcon];simp))
    clear HQ hcon hmk
    go_wp2_with fail
    refine hcn.mono ?_
    clear hcn
    rintro e w5 ⟨rfl,rfl⟩
    have ek:=(blk_cells K4.out).1 2
    have hsn:=(h4.sm.lookup kI Tryz.underlying127 (zero_bool w4) (keyI (n:=(a:Int)) (by omega) (by omega))).1
    rw[show(fU (fun n=>P.any fun p:Nat=>(p:Int)==n) (a:Int)).getD (.bool false)=.bool (P.contains a) by show(if (P.any fun p:Nat=>(p:Int)==(a:Int))then some (Value.bool true)else none).getD (.bool false)=_;rw[any_nat];cases P.contains a<;>rfl]at hsn
    have es:=(blk_cells h4.sb).1 0
    cases hcp:P.contains a with
    |true=>
     rw[hcp]at hsn
     have hQ2:Q=(P,R):=by rw[←HQ2.out,if_pos hcp]
     subst hQ2
     clear hcp HQ2
     go_wp2
     go_end0
     exact⟨rfl,_,_,h4⟩
    |false=>
     rw[hcp]at hsn
     have hnP:a∉P:=by simpa using hcp
     obtain⟨w8,g8,c8,w9,W9,hmu,hz8,hk8,hrun8,st9,h9,hk9⟩:=h4.mark hm ha hnP
     have k9:W9.heap[w2.heap.size]?=some (oDl p.x p.A1 p.A2 p.c1 p.c2):=(hk9 _ (by omega) hz1 (fun e=>by have:=HV.out _ e;omega)).trans K4.out
     have f1:=(blk_cells k9).1 2
     have f2:=(blk_cells ((hk8 (b+1) (by omega) (by have:=h4.up;omega)).trans h4.pb)).1 0
     clear hz8
     have hQ2:Q=(P++[a],R):=by rw[←HQ2.out,if_neg (by rw[hcp];exact Bool.false_ne_true),if_neg (by omega),if_neg (by omega)]
     subst hQ2
     clear hcp HQ2 hk1
     go_wp2
     go_end0
     exact⟨rfl,_,_,h9⟩
   |false=>
    rw[hcon]at hcn
    have HQ2:=Lib.hid (HQ.out (R++[n]) (by rw[hcon];simp[hk1]))
    have hnR:n∉R:=by simpa using hcon
    clear HQ hcon hmk
    obtain⟨g',c2,w6,W7,hrun,st7,h7,hk7,hn7,hz7⟩:=h4.root hm hnm hnR
    have k7:W7.heap[w2.heap.size]?=some (oDl p.x p.A1 p.A2 p.c1 p.c2):=(hk7 _ (by omega) hz1 (fun e=>by have:=HU.out _ e;omega)).trans K4.out
    have ek:=(blk_cells k7).1 2
    go_wp2_with fail
    refine hcn.mono ?_
    clear hcn
    rintro e w5 ⟨rfl,rfl⟩
    have hsn:=(h7.sm.lookup kI Tryz.underlying127 (zero_bool W7) (keyI (n:=(a:Int)) (by omega) (by omega))).1
    rw[show(fU (fun n=>P.any fun p:Nat=>(p:Int)==n) (a:Int)).getD (.bool false)=.bool (P.contains a) by show(if (P.any fun p:Nat=>(p:Int)==(a:Int))then some (Value.bool true)else none).getD (.bool false)=_;rw[any_nat];cases P.contains a<;>rfl]at hsn
    have es:=(blk_cells h7.sb).1 0
    cases hcp:P.contains a with
    |true=>
     rw[hcp]at hsn
     have hQ2:Q=(P,(R++[n])):=by rw[←HQ2.out,if_pos hcp]
     subst hQ2
     clear hcp HQ2
     go_wp2
     go_end0
     exact⟨rfl,_,_,h7⟩
    |false=>
     rw[hcp]at hsn
     have hnP:a∉P:=by simpa using hcp
     obtain⟨w8,g8,c8,w9,W9,hmu,hz8,hk8,hrun8,st9,h9,hk9⟩:=h7.mark hm ha hnP
     have k9:W9.heap[w2.heap.size]?=some (oDl p.x p.A1 p.A2 p.c1 p.c2):=(hk9 _ (by omega) (by omega) (fun e=>by have:=HV.out _ e;omega)).trans k7
     have f1:=(blk_cells k9).1 2
     have f2:=(blk_cells ((hk8 (b+1) (by omega) (by have:=h7.up;omega)).trans h7.pb)).1 0
     clear hz8
     have hQ2:Q=(P++[a],(R++[n])):=by rw[←HQ2.out,if_neg (by rw[hcp];exact Bool.false_ne_true),if_neg (by omega),if_neg (by omega)]
     subst hQ2
     clear hcp HQ2 hk1
     go_wp2
     go_end0
     exact⟨rfl,_,_,h9⟩
  ·have qk:((p.x.kind:Int)==1)=false:=beq_eq_false_iff_ne.2 (by omega)
   have HQ2:=Lib.hid (HQ.out R (by rw[if_neg (fun h=>hk1 h.1)]))
   have ek:=e1
   clear HQ hmk
   have hsn:=(h4.sm.lookup kI Tryz.underlying127 (zero_bool w4) (keyI (n:=(a:Int)) (by omega) (by omega))).1
   rw[show(fU (fun n=>P.any fun p:Nat=>(p:Int)==n) (a:Int)).getD (.bool false)=.bool (P.contains a) by show(if (P.any fun p:Nat=>(p:Int)==(a:Int))then some (Value.bool true)else none).getD (.bool false)=_;rw[any_nat];cases P.contains a<;>rfl]at hsn
   have es:=(blk_cells h4.sb).1 0
   cases hcp:P.contains a with
   |true=>
    rw[hcp]at hsn
    have hQ2:Q=(P,R):=by rw[←HQ2.out,if_pos hcp]
    subst hQ2
    clear hcp HQ2
    go_wp2
    go_end0
    exact⟨rfl,_,_,h4⟩
   |false=>
    rw[hcp]at hsn
    have hnP:a∉P:=by simpa using hcp
    obtain⟨w8,g8,c8,w9,W9,hmu,hz8,hk8,hrun8,st9,h9,hk9⟩:=h4.mark hm ha hnP
    have k9:W9.heap[w2.heap.size]?=some (oDl p.x p.A1 p.A2 p.c1 p.c2):=(hk9 _ (by omega) hz1 (fun e=>by have:=HV.out _ e;omega)).trans K4.out
    have f1:=(blk_cells k9).1 2
    have f2:=(blk_cells ((hk8 (b+1) (by omega) (by have:=h4.up;omega)).trans h4.pb)).1 0
    clear hz8
    by_cases hk3:p.x.kind=3
    ·have qk3:((p.x.kind:Int)==3)=true:=by rw[hk3];rfl
     have qk4:((p.x.kind:Int)==4)=false:=by rw[hk3];rfl
     have f3:=(blk_cells k9).1 3
     have f4:=(blk_cells h9.fw).1 0
     have hrec:=IH.out p.x.lot (P++[a]) R _ _ W9 h9 (by have:=HF.out;rw[List.length_append];simp;omega)
     have hQ2:Rt.follow (dls L) f p.x.lot (P++[a],R)=Q:=by rw[←HQ2.out,if_neg (by rw[hcp];exact Bool.false_ne_true),if_pos hk3]
     rw[hQ2,hap]at hrec
     clear hcp HQ2 hQ2 hk3 hk1
     go_wp2_with fail
     refine hrec.mono ?_
     rintro e w11 ⟨rfl,v',u',h11⟩
     go_wp2
     go_end0
     exact⟨rfl,v',u',h11⟩
    by_cases hk4:p.x.kind=4
    ·have qk3:((p.x.kind:Int)==3)=false:=by rw[hk4];rfl
     have qk4:((p.x.kind:Int)==4)=true:=by rw[hk4];rfl
     have f3:W9.cell? ⟨w2.heap.size,9,none⟩=some (.slice p.A1 p.x.into.length p.c1):=(blk_cells k9).1 9
     have hQ2:p.x.into.foldl (fun q m=>Rt.follow (dls L) f m q) (P++[a],R)=Q:=by rw[←HQ2.out,if_neg (by rw[hcp];exact Bool.false_ne_true),if_neg (by omega),if_pos hk4]
     have HQ3:=Lib.hid hQ2
     obtain⟨I,hI⟩: ∃I,p.x.into=I:=⟨_,rfl⟩
     have hin:Ints w w.heap.size p.A1 I:=by rw[←hI];exact HD.out.into
     have hli:I.length≤1000:=by rw[←hI];exact HD.out.li
     rw[hI]at f3 HQ3
     obtain⟨A1,hA1⟩: ∃A1,p.A1=A1:=⟨_,rfl⟩
     rw[hA1]at f3 hin
     have HI:=Lib.hid hin
     have HS:Hid (P.length+1≤(P++[a]).length):=Lib.hid (by simp)
     clear hcp HQ2 hQ2 hk3 hk4 hk1 hI hA1 hin
     go_wp2
     go_loopw [55] (fun i wr=> ∃(j:Nat) (P':List Nat) (R':List Int) (v' u':Value),j≤I.length∧i=.int .i64 j∧Hid ((I.drop j).foldl (fun q m=>Rt.follow (dls L) f m q) (P',R')=Q)∧Hid (LN w b wr (some ⟨b',off,none⟩) c L P' R' v' u')∧P.length+1≤P'.length) (fun i _=>I.length-(intOf i).toNat)
     case atStart=>exact⟨0,P++[a],R,_,_,by omega,rfl,HQ3,Lib.hid h9,HS.out⟩
     case round=>
      obtain⟨j,P',R',v',u',hj,rfl,HQ4,H10,hlen⟩:=hrel
      by_cases hlt:j<I.length
      ·obtain⟨bi,oi,ei,hbi,q1⟩:=Ints.at1 (Seg.below HI.out H10.out.bel) hlt
       subst ei
       have g4:=(blk_cells H10.out.fw).1 0
       obtain⟨q,hq⟩: ∃q,Rt.follow (dls L) f I[j] (P',R')=q:=⟨_,rfl⟩
       have hrec:=IH.out I[j] P' R' _ _ wr H10.out (by have:=HF.out;omega)
       rw[hap,hq]at hrec
       have HQ5:Hid ((I.drop (j+1)).foldl (fun q m=>Rt.follow (dls L) f m q) (q.1,q.2)=Q):=Lib.hid (by rw[←HQ4.out,List.drop_eq_getElem_cons hlt,List.foldl_cons,hq])
       have hl2:P.length+1≤q.1.length:=by have:=Rt.follow_len (dls L) f I[j] (P',R');rw[hq]at this;exact Nat.le_trans hlen this
       obtain⟨m,hm2⟩: ∃m,I[j]=m:=⟨_,rfl⟩
       rw[hm2]at q1 hrec
       clear hq hm2
       go_wp2_with fail
       refine hrec.mono ?_
       clear hrec
       rintro e w11 ⟨rfl,v2,u2,h11⟩
       have H11:=Lib.hid h11
       clear h11
       go_wp2
       go_roundw
       case rel=>exact⟨j+1,q.1,q.2,v2,u2,by omega,by go_num,HQ5,H11,hl2⟩
       case measure=>first|(simp[intOf];done)|(simp[intOf];omega)
      ·obtain rfl:j=I.length:=by omega
       have hQ5:(P',R')=Q:=by rw[←HQ4.out];simp
       subst hQ5
       go_wp2
       go_end0
       exact⟨rfl,_,_,H10.out⟩
    have qk3:((p.x.kind:Int)==3)=false:=beq_eq_false_iff_ne.2 (by omega)
    have qk4:((p.x.kind:Int)==4)=false:=beq_eq_false_iff_ne.2 (by omega)
    have hQ2:Q=(P++[a],R):=by rw[←HQ2.out,if_neg (by rw[hcp];exact Bool.false_ne_true),if_neg hk3,if_neg hk4]
    subst hQ2
    clear hcp HQ2 hk3 hk4 hk1
    go_wp2
    go_end0
    exact⟨rfl,_,_,h9⟩
end Go.Proofs.YtcffonnijhhhiaaGreatDoor
