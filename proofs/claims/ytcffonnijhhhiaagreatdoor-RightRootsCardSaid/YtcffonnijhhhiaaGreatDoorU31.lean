/- Part U31 of the proof: FdI Cx Ft Fb Ea Eb. -/
import Derived.Test.YtcffonnijhhhiaaGreatDoorProg
import Derived.WalkKit
import Derived.WalkLawsBesides
import Derived.WalkSpells
import Derived.Handy
import Derived.Lib.Hide
import Derived.Great.BuildSlice
import Derived.Deep.QuietTactic
import Derived.BigQuiet
import Derived.Deep.RegionHeld3
import Derived.Deep.DeepCutAuto
import Derived.Test.YtcffonnijhhhiaaGreatDoorU16
import Derived.Test.YtcffonnijhhhiaaGreatDoorU30
import Derived.Test.YtcffonnijhhhiaaGreatDoorU26
import Derived.Test.YtcffonnijhhhiaaGreatDoorU23
import Derived.Test.YtcffonnijhhhiaaGreatDoorU19
set_option linter.all false
set_option linter.unusedSimpArgs false
set_option linter.unusedVariables false
set_option linter.unusedSectionVars false
namespace Go.Proofs.YtcffonnijhhhiaaGreatDoor
open Go Go.RowKit Go.Maps Mp
theorem idxF_i2 (A:Option Addr)(c:Nat)(l:List Int)(g:FuncId)(cap:Array Value)(p:Int→Bool)(w:World)(hl:Seg encInt 1 w w.heap.size A l)(hm:l.length≤3000000000000)
  (hen: ∀args w,(callFunc g args).run Tryz.prog w=.ok (.enter g args) w)
  (hp: ∀x∈l,∀W,Below w.heap.size w W→Calls Tryz.prog g (#[.int .i64 x]++cap) W fun e W'=>e=.returned (.bool (p x))∧Below W.heap.size W W'):
  Calls Tryz.prog 192 #[.slice A l.length c,.func (.func g) #[] cap] w fun e w'=>e=.returned (.int .i64 (Rt.pos (Rt.idx p l)))∧Below w.heap.size w w':=by
 go_enter Tryz.func192,Tryz.ntmps192
 go_wp2
 go_loopw [8] (fun i wr=> ∃(k:Nat),k≤l.length∧i=.int .i64 k∧Hid (∀j (h:j<l.length),j<k→p l[j]=false)∧Below w.heap.size w wr) (fun i _=>l.length-(intOf i).toNat)
 case atStart=>exact⟨0,by omega,rfl,Lib.hid fun j _ h=>by omega,by go_grown⟩
 case round=>
  obtain⟨k,hk,rfl,hg,hb⟩:=hrel
  have hsz:=hb.size
  by_cases hlt:k<l.length
  ·obtain⟨b,off,rfl,hbB,q0⟩:=Ints.at1 (hl.below hb) hlt
   have hpk:=Lib.hid (hp l[k] (List.getElem_mem hlt))
   cases hc:p l[k]with
   |true=>
    have hv:=Lib.hid (Rt.idx_hit (p:=p) hlt (fun j hj=>hg.out j (by omega) hj) hc)
    have HC:=Lib.hid hc
    clear hc
    go_wp2
    refine(hpk.out _ (by go_grown)).mono ?_
    rintro e w2 ⟨rfl,hx⟩
    rw[HC.out]
    have hb2:Below w.heap.size w w2:=Below.trans (by go_grown) (hx.mono (by go_size))
    clear hx
    go_wp2
    go_ret
    exact⟨by rw[hv.out];try rfl,hb2⟩
   |false=>
    have HC:=Lib.hid hc
    clear hc
    go_wp2
    refine(hpk.out _ (by go_grown)).mono ?_
    rintro e w2 ⟨rfl,hx⟩
    rw[HC.out]
    have hb2:Below w.heap.size w w2:=Below.trans (by go_grown) (hx.mono (by go_size))
    clear hx
    go_wp2
    go_roundw
    case rel=>exact⟨k+1,by omega,by go_num,Lib.hid fun j h hj=>by
     by_cases e:j=k
     ·subst e;exact HC.out
     ·exact hg.out j h (by omega),hb2⟩
    case measure=>first|(simp[intOf];done)|(simp[intOf];omega)
  ·have hv:=Lib.hid (Rt.idx_none (p:=p) (l:=l) fun j hj=>hg.out j hj (by omega))
   go_wp2
   go_ret
   exact⟨by rw[hv.out];try rfl,by go_grown⟩
set_option maxRecDepth 100000 in
set_option maxHeartbeats 4000000 in
theorem delF_I (A:Option Addr)(c:Nat)(L:List Int)(g:FuncId)(cap:Array Value)(p:Int→Bool)(w:World)(hl:Seg encInt 1 w w.heap.size A L)(hm:L.length≤3000000000000)(hcp:L.length≤c)(hk: ∀a,A=some a→ ∃cs,w.heap[a.block]?=some (.cells cs 3 (0,0)))
  (hen: ∀args w,(callFunc g args).run Tryz.prog w=.ok (.enter g args) w)
  (hp : ∀ x ∈ L, ∀ W, w.grownBy W (A.map (·.block)) → Calls Tryz.prog g (#[.int .i64 x] ++ cap) W fun e W' => e = .returned (.bool (p x)) ∧ Below W.heap.size W W') :
  Calls Tryz.prog 135 #[.slice A L.length c, .func (.func g) #[] cap] w fun e w' => e = .returned (.slice A (L.filter fun x => !p x).length c) ∧ Seg encInt 1 w' w'.heap.size A (L.filter fun x => !p x) ∧ w.grownBy w' (A.map (·.block)) ∧ (∀ a, A = some a → ∃ cs, w'.heap[a.block]? = some (.cells cs 3 (0, 0))) := by
 have hix:=idxF_i2 A c L g cap p w hl hm hen (fun x hx W hW=>hp x hx W ((grownBy_of_below hW).but _))
 have HP:=Lib.hid hp
 have HL:=Lib.hid hl
 have HK:=Lib.hid hk
 clear hp hl hk
 cases hi:Rt.idx p L with
 |none=>
  have hall:L.filter (fun x=> !p x)=L:=List.filter_eq_self.2 (fun x hx=>by
   have:=idx_no hi x hx
   simp[this])
  rw[hall]
  rw[hi]at hix
  have hq:(Rt.pos none== -1)=true:=rfl
  clear hi hall
  go_enter Tryz.func135,Tryz.ntmps135
  go_wp2_with fail
  refine hix.mono ?_
  rintro e w1 ⟨rfl,hb⟩
  go_wp2
  go_ret
  exact⟨rfl,HL.out.up hb,(grownBy_of_below hb).but _,fun a ha=>by
   obtain⟨cs,h⟩:=HK.out a ha
   exact⟨cs,(hb.block _ (Array.getElem?_eq_some_iff.1 h).1).trans h⟩⟩
 |some k0=>
  obtain⟨hk0,hp0,hlow⟩:=idx_some hi
  rw[hi]at hix
  have hq:(Rt.pos (some k0)== -1)=false:=by unfold Rt.pos;simp
  have hpos:Rt.pos (some k0)=(k0:Int):=rfl
  rw[hpos]at hix hq
  obtain⟨gb,off,hA,hgb,_⟩:=HL.out.at_ hk0
  subst hA
  obtain⟨cs0,hcs0⟩:=HK.out _ rfl
  have HS:=Lib.hid (Kept.start hk0 hp0 hlow)
  simp only[Option.map_some]at HP ⊢
  clear hi hp0 hlow hpos
  go_enter Tryz.func135,Tryz.ntmps135
  go_wp2_with fail
  refine hix.mono ?_
  clear hix
  rintro e w1 ⟨rfl,hb⟩
  have g1:w.grownBy w1 (some gb):=grown_below gb hb
  have hb1: ∃cs,w1.heap[gb]?=some (.cells cs 3 (0,0)):=⟨cs0,(hb.block _ hgb).trans hcs0⟩
  have hs1:=HL.out.up hb
  go_wp2
  go_loopw [5,6] (fun s5 s6 wr=> ∃(i j:Nat) (M:List Int),s5=.int .i64 i∧s6=.int .i64 j∧Hid (Kept p L i j M)∧Hid (Seg encInt 1 wr wr.heap.size (some ⟨gb,off,none⟩) M)∧w.grownBy wr (some gb)∧Hid (∃cs,wr.heap[gb]?=some (.cells cs 3 (0,0)))) (fun _ s6 _=>L.length-(intOf s6).toNat)
  case atStart=>exact⟨k0,k0+1,L,rfl,by go_num,HS,Lib.hid hs1,g1,Lib.hid hb1⟩
  case round=>
   obtain⟨i,j,M,rfl,rfl,HKp,HSg,hg,HB⟩:=hrel
   have hij:=HKp.out.lt
   have hjl:=HKp.out.le
   have hml:=HKp.out.len
   by_cases hlt:j<L.length
   ·obtain⟨hjM,hMj⟩:=HKp.out.at_ hlt
    obtain⟨b,off',hA,hbB,q0⟩:=Ints.at1 HSg.out hjM
    cases hA
    rw[hMj]at q0
    have hcall:=HP.out L[j] (List.getElem_mem hlt)
    have hxm:=hMj
    clear hMj
    obtain⟨x,hx⟩: ∃x,L[j]=x:=⟨_,rfl⟩
    rw[hx]at q0 hcall
    have hc4:=hcall wr hg
    obtain⟨w4,hw4⟩: ∃w4,w4=wr:=⟨_,rfl⟩
    have b4:Below wr.heap.size wr wr:=Below.refl _ _
    cases hpx:p x with
    |true=>
     rw[hpx]at hc4
     have HPX:=Lib.hid hpx
     clear hpx hcall
     go_wp2_with fail
     refine hc4.mono ?_
     rintro e w5 ⟨rfl,b5⟩
     have b5':Below wr.heap.size wr w5:=b4.trans (b5.mono b4.size)
     go_wp2
     go_roundw
     case rel=>exact⟨i,j+1,M,rfl,by go_num,Lib.hid (HKp.out.skip hlt (by rw[hx];exact HPX.out)),Lib.hid (HSg.out.up b5'),grown_up hg b5',Lib.hid (by obtain⟨cs,h⟩:=HB.out;exact⟨cs,(b5'.block _ (Array.getElem?_eq_some_iff.1 h).1).trans h⟩)⟩
     case measure=>first|(simp[intOf];done)|(simp[intOf];omega)
    |false=>
     rw[hpx]at hc4
     have HPX:=Lib.hid hpx
     clear hpx hcall
     go_wp2_with fail
     refine hc4.mono ?_
     rintro e w5 ⟨rfl,b5⟩
     have b5':Below wr.heap.size wr w5:=b4.trans (b5.mono b4.size)
     have HS5:=Lib.hid (HSg.out.up b5')
     have HB5:Hid (∃cs,w5.heap[gb]?=some (.cells cs 3 (0,0))):=Lib.hid (by obtain⟨cs,h⟩:=HB.out;exact⟨cs,(b5'.block _ (Array.getElem?_eq_some_iff.1 h).1).trans h⟩)
     have q9: ∃u,w5.cell? ⟨gb,off+i,none⟩=some u:=Option.isSome_iff_exists.1 (by have:=(seg_there (i:=i) (n:=1) layI.henc layI.hs HS5.out HB5.out (by omega) 0 (by omega)).1;simpa using this)
     obtain⟨u,q9⟩:=q9
     obtain⟨cs5,hcs5⟩:=HB5.out
     have hfz:=(blk_cells hcs5).2
     obtain⟨e6,g6,h6⟩:Hid (Seg encInt 1 (w5.setCell ⟨gb,off+i,none⟩ (.int .i64 x)) (w5.setCell ⟨gb,off+i,none⟩ (.int .i64 x)).heap.size (some ⟨gb,off,none⟩) (M.set i x))∧w5.grownBy (w5.setCell ⟨gb,off+i,none⟩ (.int .i64 x)) (some gb)∧Hid (∃cs,(w5.setCell ⟨gb,off+i,none⟩ (.int .i64 x)).heap[gb]?=some (.cells cs 3 (0,0))):=
      ⟨Lib.hid (by have:=seg_set (i:=i) layI.henc layI.hs HS5.out HB5.out (by omega) x;simpa [World.setCells,encInt]using this),gsc w5 ⟨gb,_,none⟩ _,Lib.hid ⟨_,hsc _ hcs5⟩⟩
     go_wp2
     go_roundw
     case rel=>exact⟨i+1,j+1,M.set i L[j],by go_num,by go_num,Lib.hid (HKp.out.keep hlt (by rw[hx];exact HPX.out)),(by rw[hx];exact e6),(grown_up hg b5').trans g6,h6⟩
     case measure=>first|(simp[intOf];done)|(simp[intOf];omega)
   ·obtain rfl:j=L.length:=by omega
    obtain⟨hd1,hd2⟩:=HKp.out.done
    obtain⟨w7,hcl,g7,h7,s7⟩:=clear_law (i:=i) (n:=L.length-i) (c:=c-i) layI Tryz.zeroValue3 (by simp[Value.cells,Value.oneCell']) HSg.out HB.out (by omega) (by omega)
    have hic: ¬c=i:=by omega
    rw[Nat.mul_one]at hcl
    rw[hd1]at s7
    have HD2:=Lib.hid hd2
    have HS7:=Lib.hid s7
    have HB7:=Lib.hid h7
    clear s7 h7 hd1 hd2
    go_wp2
    go_ret
    exact⟨by rw[HD2.out];rfl,HS7.out.more g7.size,hg.trans g7,fun a ha=>by cases ha;exact HB7.out⟩
end Go.Proofs.YtcffonnijhhhiaaGreatDoor
namespace Go.Proofs.Rt
def changedR (r s : Roll) : List Int := (Lib.compact (rise ((r.lots ++ s.lots).map (·.number)))).filter fun n => !alike r s n
end Go.Proofs.Rt
namespace Go.Proofs.YtcffonnijhhhiaaGreatDoor
open Go Go.RowKit Go.Maps Mp
attribute [-simp] Prod.forall Prod.exists
attribute [-go_sem] loadVar storeVar Builtin.append_
attribute [local go_sem] lk_int lk_sL
def changedI (l:List Dl)(a b:Int):List Int:=if (Rt.check l).2=0 then Rt.changedR (onR l a) (onR l b)else []
set_option maxRecDepth 100000 in
set_option maxHeartbeats 8000000 in
theorem changed_a (A:Option Addr)(c:Nat)(L:List Dp)(a b:Int)(w:World)(hL:Dls w w.heap.size A L)(hm:L.length≤1000000):Calls Tryz.prog 65 #[.slice A L.length c,.int .i64 a,.int .i64 b] w fun e w'=> ∃A' c',e=.returned (.tuple #[.slice A' (changedI (dls L) a b).length c',.int .i64 (Rt.check (dls L)).2])∧Ints w' w'.heap.size A' (changedI (dls L) a b)∧Below w.heap.size w w':=by
 have hr1:=rollF_a A c L a w hL hm
 have HL:=Lib.hid hL
 clear hL
 unfold EndRf at hr1
 unfold changedI
 obtain⟨E,hE⟩: ∃E,(Rt.check (dls L)).2=E:=⟨_,rfl⟩
 rw[hE]at hr1 ⊢
 by_cases h0:E=0
 case neg=>
  have hq2:(E !=0)=true:=by simpa using h0
  rw[if_neg h0]
  generalize onR (dls L) a=r at hr1
  clear hE h0
  go_enter Tryz.func65,Tryz.ntmps65
  go_wp2_with fail
  refine hr1.mono ?_
  rintro e w1 ⟨A1,c1,A2,c2,A3,c3,M,rfl,hR,_,_,_,_,_,_,_,_,b1,_⟩
  obtain⟨w2,st2,k2,g2⟩:=st_row (w1.alloc (.cells zcR 50)) w1.heap.size 50 50 zcR #[.slice A1 r.lots.length c1,.slice A2 r.eases.length c2,.slice A3 r.stints.length c3] (heap_alloc_new w1 _) info_roll rfl (by simp[Value.oneCell'])
  have b2:Below w1.heap.size w1 w2:=(Below.alloc (Below.refl _ w1) (Nat.le_refl _) _).grown g2 (by simp) (by intro k e;cases e;omega)
  clear hR g2 k2
  go_wp2
  refine bodyPost_ret (v:=.tuple #[.slice none 0 0,.int .i64 E]) (by simp[results,Tryz.results65,go_sem]) rfl ?_
  exact⟨none,0,rfl,.inl rfl,b1.trans (b2.mono b1.size)⟩
 have hr2: ∀V,Below w.heap.size w V→Calls Tryz.prog 44 #[.slice A L.length c,.int .i64 b] V (EndRf V (onR (dls L) b) 0):=fun V hV=>by
  have:=rollF_a A c L b V (HL.out.up hV) hm
  rwa[hE,h0]at this
 subst h0
 rw[if_pos rfl]
 have H2:=Lib.hid hr2
 clear hE hr2
 obtain⟨r,hr⟩: ∃r,onR (dls L) a=r:=⟨_,rfl⟩
 obtain⟨s,hs⟩: ∃s,onR (dls L) b=s:=⟨_,rfl⟩
 rw[hr]at hr1 ⊢
 rw[hs]at H2 ⊢
 unfold EndRf at H2
 clear hr hs
 go_enter Tryz.func65,Tryz.ntmps65
 go_wp2_with fail
 refine hr1.mono ?_
 clear hr1
 rintro e w1 ⟨A1,c1,A2,c2,A3,c3,M,rfl,hR,_,_,_,_,_,_,_,_,b1,fr⟩
 obtain⟨w2,st2,k2,g2⟩:=st_row (w1.alloc (.cells zcR 50)) w1.heap.size 50 50 zcR #[.slice A1 r.lots.length c1,.slice A2 r.eases.length c2,.slice A3 r.stints.length c3] (heap_alloc_new w1 _) info_roll rfl (by simp[Value.oneCell'])
 have b2:Below w1.heap.size w1 w2:=(Below.alloc (Below.refl _ w1) (Nat.le_refl _) _).grown g2 (by simp) (by intro k e;cases e;omega)
 have z12:=(Array.getElem?_eq_some_iff.1 k2).1
 have bw2:=b1.trans (b2.mono b1.size)
 have hR2:=hR.up b2
 have hcall:=H2.out w2 bw2
 have K2:=Lib.hid k2
 have HR2:=Lib.hid hR2
 have FR:=Lib.hid fr
 clear H2 hR g2 k2 hR2 fr
 go_wp2_with fail
 refine hcall.mono ?_
 clear hcall
 rintro e w3 ⟨B1,d1,B2,d2,B3,d3,N,rfl,hS,_,_,_,_,_,_,_,_,b3,fs⟩
 obtain⟨w4,st4,k4,g4⟩:=st_row (w3.alloc (.cells zcR 50)) w3.heap.size 50 50 zcR #[.slice B1 s.lots.length d1,.slice B2 s.eases.length d2,.slice B3 s.stints.length d3] (heap_alloc_new w3 _) info_roll rfl (by simp[Value.oneCell'])
 have b4:Below w3.heap.size w3 w4:=(Below.alloc (Below.refl _ w3) (Nat.le_refl _) _).grown g4 (by simp) (by intro k e;cases e;omega)
 have z34:=(Array.getElem?_eq_some_iff.1 k4).1
 have z23:=b3.size
 have b24:=b3.trans (b4.mono z23)
 have bw4:=bw2.trans (b24.mono bw2.size)
 have kr4:=(b24.block _ z12).trans K2.out
 have HR4:=Lib.hid (HR2.out.up b24)
 have HS4:=Lib.hid (hS.up b4)
 have FS:=Lib.hid fs
 have ca:w4.cell? ⟨w1.heap.size,0,none⟩=some (.slice A1 r.lots.length c1):=(blk_cells kr4).1 0
 have cb:w4.cell? ⟨w3.heap.size,0,none⟩=some (.slice B1 s.lots.length d1):=(blk_cells k4).1 0
 have b5:Below w4.heap.size w4 (w4.alloc (.cells #[.slice A1 r.lots.length c1,.slice B1 s.lots.length d1] 46 (0,0))):=by go_grown
 have hcc:=concat_a w4.heap.size A1 B1 c1 d1 M N _ (by rw[HR4.out.llen,HS4.out.llen];exact heap_alloc_new w4 _) (HR4.out.up b5).lots.seg (HS4.out.up b5).lots.seg (by rw[HR4.out.llen];exact FR.out.lots) (by rw[HS4.out.llen];exact FS.out.lots)
 have K4:=Lib.hid k4
 have KR4:=Lib.hid kr4
 obtain⟨Z,hZ⟩: ∃Z,M++N=Z:=⟨_,rfl⟩
 obtain⟨I,hI⟩: ∃I,Z.map (fun p:Lp=>p.x.number)=I:=⟨_,rfl⟩
 have hIl:I.length=Z.length:=by rw[←hI];simp
 have hZl:Z.length≤4000000:=by
  have h1:=HR4.out.llen
  have h2:=HS4.out.llen
  have h3:=FR.out.lots
  have h4:=FS.out.lots
  rw[←hZ,List.length_append]
  omega
 have HNUM : Hid (I = (r.lots ++ s.lots).map (·.number)) := Lib.hid (by
  rw[←hI,←hZ,←HR4.out.is,←HS4.out.is]
  simp[lts,Function.comp_def])
 have HI:=Lib.hid hI
 rw[hZ]at hcc
 have HB4:=Lib.hid bw4
 clear hS g4 k4 kr4 fs HR2 K2 hZ hI bw4 b24
 go_wp2_with fail
 refine hcc.mono ?_
 clear hcc
 rintro e w5 ⟨A5,c5,rfl,hs5,b6⟩
 have b45:Below w4.heap.size w4 w5:=b5.trans (b6.mono b5.size)
 have z45:=b45.size
 have HS5:=Lib.hid hs5
 have HB5:=Lib.hid (Below.refl w5.heap.size w5)
 clear hs5 b5 b6 ca cb
 go_wp2
 go_loopw [12,37] (fun v i wr=> ∃(j:Nat) (A':Option Addr) (c':Nat),j≤Z.length∧i=.int .i64 j∧v=.slice A' j c'∧Hid (wr.ownsRow w5.heap.size 3 1 (.slice A' j c') j ((I.take j).flatMap encInt))∧Below w5.heap.size w5 wr) (fun _ i _=>Z.length-(intOf i).toNat)
 case atStart=>exact⟨0,none,0,by omega,rfl,rfl,Lib.hid (World.ownsRow_nil _ _ _ _),HB5.out⟩
 case round=>
  obtain⟨j,A',c',hj,rfl,rfl,HO,hb⟩:=hrel
  by_cases hlt:j<Z.length
  ·obtain⟨bl,off,hA,hbb,hld⟩:=ld_L (HS5.out.below hb) hlt
   have etk:I.take (j+1)=I.take j++[Z[j].x.number]:=by
    rw[List.take_succ_eq_append_getElem (by omega)]
    congr 2
    have:=HI.out
    subst this
    simp
   have elk:(I.take j).length=j:=by rw[List.length_take];omega
   obtain⟨p,hp⟩: ∃p,Z[j]=p:=⟨_,rfl⟩
   rw[hp]at hld etk
   obtain⟨w8,st8,k8,g8⟩:=st_row (wr.alloc (.cells zcL 54)) wr.heap.size 54 54 zcL (rowL p) (heap_alloc_new wr _) info_lot rfl (by simp[Value.oneCell'])
   have b8:Below wr.heap.size wr w8:=(Below.alloc (Below.refl _ wr) (Nat.le_refl _) _).grown g8 (by simp) (by intro k e;cases e;omega)
   have hid8:w8.cell? ⟨wr.heap.size,0,none⟩=some (.int .i64 p.x.number):=(blk_cells k8).1 0
   have zr:=hb.size
   have z8:=b8.size
   have o8:w8.ownsRow w5.heap.size 3 1 (.slice A' j c') (I.take j).length ((I.take j).flatMap encInt):=by rw[elk];exact own_below HO.out b8
   obtain⟨g',c9,w9,hrun,ho9,hb9,_⟩:=own_push layI o8 p.x.number #[.int .i64 p.x.number] rfl (by omega) (by decide) (by omega)
   have el:(I.take j++[p.x.number]).length=j+1:=by rw[List.length_append,elk];rfl
   rw[el]at hrun ho9
   rw[←etk]at ho9
   have HO9:=Lib.hid ho9
   have hbb9:Below w5.heap.size w5 w9:=(hb.trans (b8.mono zr)).trans hb9
   subst hA
   clear k8 g8 o8 ho9 etk elk el hp
   go_wp2
   go_roundw
   case rel=>exact⟨j+1,some ⟨g',0,none⟩,c9,by omega,by go_num,rfl,HO9,hbb9⟩
   case measure=>first|(simp[intOf];done)|(simp[intOf];omega)
  ·obtain rfl:j=Z.length:=by omega
   have ho:=HO.out
   rw[List.take_of_length_le (by omega),←hIl]at ho
   have hso:=sortS_a A' c' I wr ho (by omega)
   rw[hIl]at hso
   have zr:=hb.size
   have HBR:=Lib.hid hb
   clear ho
   go_wp2_with fail
   refine hso.mono ?_
   clear hso
   rintro e w6 ⟨rfl,J,hJ,hoJ,g6⟩
   have hJl:J.length=Z.length:=hJ.2.2.trans hIl
   have eJ:J=Rt.rise I:=rise_eq hJ
   have hcm:=compactS_a A' c' J w6 hoJ (by omega)
   have hcl:(Lib.compact J).length≤J.length:=by
    unfold Lib.compact Lib.compactUpTo
    rw[List.length_map]
    exact Nat.le_trans (List.length_filter_le _ _) (by simp)
   have hcc:J.length≤c':=by
    obtain⟨_,_,e2,_,h2,_⟩:=own_seg layI hoJ
    cases e2
    exact h2
   have hfA : ∀ g, A'.map (·.block) = some g → w5.heap.size ≤ g := fun g e => (hoJ.lt g (own_map e)).1
   obtain⟨C,hC⟩: ∃C,Lib.compact J=C:=⟨_,rfl⟩
   rw[hC,hJl]at hcm
   rw[hC]at hcl
   have HCJ:Hid (Rt.changedR r s=C.filter fun n=> !Rt.alike r s n):=Lib.hid (by unfold Rt.changedR;rw[←HNUM.out,←eJ,hC])
   have HW6:Hid (Below w5.heap.size w5 w6):=Lib.hid (HBR.out.grown g6 HBR.out.size hfA)
   clear hJ eJ hoJ g6 hC
   go_wp2_with fail
   refine hcm.mono ?_
   clear hcm
   rintro e w7 ⟨rfl,hs7,g7,hk7⟩
   have b57:Below w5.heap.size w5 w7:=HW6.out.grown g7 HW6.out.size hfA
   have hdl:=delF_I A' c' C 137 #[.pointer (some ⟨w1.heap.size,0,none⟩),.pointer (some ⟨w3.heap.size,0,none⟩)] (fun n=>Rt.alike r s n) w7 hs7 (by omega) (by omega) (fun x hx=>(hk7 x hx).2) (enters_of Tryz.func137 (by kernel_rfl) rfl) (fun n _ V hV=>by
    have b5V:Below w5.heap.size w5 V:=b57.grown hV b57.size hfA
    have b4V:Below w4.heap.size w4 V:=b45.trans (b5V.mono z45)
    exact changed1_a A1 A2 A3 B1 B2 B3 c1 c2 c3 d1 d2 d3 M N r s n w1.heap.size w3.heap.size V (HR4.out.up b4V) (HS4.out.up b4V) FR.out FS.out ((b4V.block _ (Array.getElem?_eq_some_iff.1 KR4.out).1).trans KR4.out) ((b4V.block _ z34).trans K4.out))
   rw[←HCJ.out]at hdl
   have HB57:=Lib.hid b57
   clear hs7 hk7 g7 b57
   go_wp2_with fail
   refine hdl.mono ?_
   clear hdl
   rintro e w8 ⟨rfl,hs8,g8,_⟩
   have b58:Below w5.heap.size w5 w8:=HB57.out.grown g8 HB57.out.size hfA
   have HS8:=Lib.hid hs8
   clear hs8
   go_wp2
   refine bodyPost_ret (v:=.tuple #[.slice A' (Rt.changedR r s).length c',.int .i64 0]) (by simp[results,Tryz.results65,go_sem]) rfl ?_
   exact⟨A',c',rfl,HS8.out,HB4.out.trans ((b45.trans (b58.mono z45)).mono HB4.out.size)⟩
end Go.Proofs.YtcffonnijhhhiaaGreatDoor
namespace Go.Proofs.YtcffonnijhhhiaaGreatDoor
open Go Go.RowKit Go.Maps Mp
attribute [-simp] Prod.forall Prod.exists
attribute [-go_sem] loadVar storeVar Builtin.append_
attribute [local go_sem] lk_int lk_lots lk_parts lk_holds lk_mE lk_mS lk_sL lk_sE lk_sS fld0 fld1
theorem sum_perm {l m:List Int}(h:l.Perm m):Rt.sumI l=Rt.sumI m:=by
 induction h with
 |nil=>rfl
 |cons x _ ih=>simp only[Rt.sumI,ih]
 |swap x y l=>simp only[Rt.sumI];omega
 |trans _ _ h1 h2=>exact h1.trans h2
theorem visit_perm {K V : Type} [DecidableEq K] {g : K → Option V} {D : List (K × V)} (h : Visit g D) {l : List K} (hn : l.Nodup) (hl : ∀ k, k ∈ l ↔ (g k).isSome = true) : (D.map (·.1)).Perm l :=
 (List.perm_ext_iff_of_nodup h.nd hn).2 fun k=>(visit_keys h k).trans (hl k).symm
theorem total_map {l : List Rt.Lot} (h : Rt.asc (l.map (·.number))) : Rt.sumI ((l.map (·.number)).map (Rt.sizeOf l)) = Rt.total l := by
 unfold Rt.total
 rw[List.map_map]
 congr 1
 refine List.map_congr_left fun x hx=> ?_
 show Rt.sizeOf l x.number=x.size
 unfold Rt.sizeOf
 rw[Rt.lotOf_mem h hx]
 rfl
def beastsR (r : Rt.Roll) (n : Int) : Int := Rt.sumI ((r.stints.filter fun e => e.lot == n).map (·.beasts))
set_option maxRecDepth 100000 in
set_option maxHeartbeats 2000000 in
theorem total_a (A:Option Addr)(c:Nat)(L:List Dp)(day:Int)(w:World)(h:Dls w w.heap.size A L)(hm:L.length≤1000000):Calls Tryz.prog 45 #[.slice A L.length c,.int .i64 day] w fun e w'=>e=.returned (.int .i64 (Rt.total (onR (dls L) day).lots))∧Below w.heap.size w w':=by
 have ho:=onSt_a A c L day w h hm
 unfold EndOd at ho
 by_cases h0:(Rt.check (dls L)).2=0
 case neg=>
  simp only[h0,if_false]at ho
  have hr:onR (dls L) day=⟨[],[],[]⟩:=if_neg h0
  rw[hr]
  have hq2:((Rt.check (dls L)).2 !=0)=true:=by simpa using h0
  have hq3:((Rt.check (dls L)).2==0)=false:=by simpa using h0
  generalize (Rt.check (dls L)).2=E2 at ho hq2 hq3
  clear h0 hr h
  go_enter Tryz.func45,Tryz.ntmps45
  go_wp2_with fail
  refine ho.mono ?_
  rintro e w' ⟨hb,rfl⟩
  go_wp2
  go_ret
  exact⟨rfl,hb⟩
 simp only[h0,if_true]at ho
 have hr:onR (dls L) day=(stDay (dls L) day).roll:=if_pos h0
 rw[hr]
 generalize stDay (dls L) day=s at ho ⊢
 clear h h0 hr
 go_enter Tryz.func45,Tryz.ntmps45
 go_wp2_with fail
 refine ho.mono ?_
 clear ho
 rintro e w1 ⟨b1,sb,bu,bl,be,bs,ad,rfl,hS,hin⟩
 have hz:=hS.lt
 obtain⟨hc,hf⟩:=blk_cells hS.blk
 have hlm:FM ekI okI w1 bl (fun k=>(ad k).map fun p:Nat×Nat=>Value.pointer (some ⟨p.1,0,none⟩)):=hS.lots
 have hinv:=Lib.hid hin
 go_wp2_with (first
  |(at_range;refine wpList_range_fm _ rfl _ _ rfl kI Tryz.underlying128 rfl hlm ?_;intro w0 n0 hrg0 hg0 hs0)
  |go_in)
 try go_frame
 have b0:Below w1.heap.size w1 w0:=⟨hg0.os,hg0.tape,hg0.output,hg0.size,fun i hi=>hg0.block i hi (by simp)⟩
 clear hc hf
 go_loopw [7] (fun sv wr=> ∃(left:Int→Bool) (m:Nat) (D:List (Int×(Nat×Nat))),Hid (Seen ad D left)∧Hid (∀p∈D,okI p.1)∧RG ekI okI wr bl w1.heap.size (fun k=>(ad k).map fun p:Nat×Nat=>Value.pointer (some ⟨p.1,0,none⟩)) left m∧sv=.int .i64 (Rt.sumI (D.map fun p=>Rt.sizeOf s.roll.lots p.1))∧Below w1.heap.size w1 wr) (fun _ wr=>wr.rangeLeft bl w1.heap.size)
 case atStart=>exact⟨fun k=>(ad k).isSome,n0,[],Lib.hid (Seen.start ad),Lib.hid (fun p hp=>by cases hp),by simpa using hrg0,rfl,b0⟩
 case round=>
  obtain⟨left,m,D,HS,HO,hrg,rfl,hb⟩:=hrel
  go_wp2_with (first
   |(at_next;refine wpList_next_rg _ rfl _ rfl kI (fun p:Nat×Nat=>Value.pointer (some ⟨p.1,0,none⟩)) ad (fun _=>rfl) _ _ rfl hrg ?_ ?_)
   |go_in)
  ·intro hl0
   have hv:=HS.out.done hl0
   have hsum:Hid (Rt.sumI (D.map fun p=>Rt.sizeOf s.roll.lots p.1)=Rt.total s.roll.lots):=Lib.hid (by
    rw[←total_map hinv.out.lots]
    have := sum_perm ((visit_perm hv (l := s.roll.lots.map (·.number)) (List.nodup_iff_pairwise_ne.2 ((asc_lt hinv.out.lots).imp (fun h e => by omega))) (fun k => (ad_iff hS k).symm)).map (Rt.sizeOf s.roll.lots))
    rw[List.map_map]at this
    exact this)
   rw[hsum.out]
   go_wp2
   go_ret
   exact⟨rfl,b1.trans (hb.mono b1.size)⟩
  ·intro k v w2 n2 hk hlx hv hrg2 hlt hg2 hs2 hen
   have hS1:=HS.out.step hv hlx
   have hO1: ∀p∈D++[(k,v)],okI p.1:=fun p hp=>by
    rcases List.mem_append.1 hp with hp|hp
    ·exact HO.out p hp
    ·rw[List.mem_singleton.1 hp];exact hk
   have hmem : k ∈ s.roll.lots.map (·.number) := (ad_iff hS k).1 (by rw [hv]; rfl)
   obtain⟨x,hxm,hxk⟩:=List.mem_map.1 hmem
   have hx:=Rt.lotOf_mem hinv.out.lots hxm
   rw[hxk]at hx
   obtain⟨_,p,hp,hp1,hp2,hpb,_⟩:=hS.plot hx
   rw[hv]at hp
   cases hp
   have b2:Below w1.heap.size w1 w2:=⟨hg2.os.trans hb.os,hg2.tape.trans hb.tape,hg2.output.trans hb.output,Nat.le_trans hb.size hg2.size,fun i hi=>(hg2.block i (by have:=hb.size;omega) (by simp;omega)).trans (hb.block i hi)⟩
   obtain⟨hcp,hfp⟩:=blk_cells ((b2.block _ (Array.getElem?_eq_some_iff.1 hpb).1).trans hpb)
   have hsz:Rt.sizeOf s.roll.lots k=x.size:=by unfold Rt.sizeOf;rw[hx];rfl
   have hbz:=hinv.out.held x hxm
   have hlen:(D.length:Int)≤1000001:=by
    have := len_okI (l := D.map (·.1)) HS.out.nd (fun y hy => by obtain ⟨p, hp, rfl⟩ := List.mem_map.1 hy; exact HO.out p hp)
    rw[List.length_map]at this
    omega
   have hbd:=sumI_bd (l:=D.map fun p=>Rt.sizeOf s.roll.lots p.1) (m:=10000000000) (fun z hz=>by
    obtain⟨p,_,rfl⟩:=List.mem_map.1 hz
    unfold Rt.sizeOf
    cases hq:Rt.lotOf s.roll.lots p.1 with
    |none=>simp
    |some y=>have:=hinv.out.held y (Rt.lotOf_some hq).1;simp;omega)
   rw[List.length_map]at hbd
   have hsum:Hid (Rt.sumI ((D++[(k,v)]).map fun p=>Rt.sizeOf s.roll.lots p.1)=Rt.sumI (D.map fun p=>Rt.sizeOf s.roll.lots p.1)+x.size):=Lib.hid (by
    rw[List.map_append,sumI_app]
    simp[Rt.sumI,hsz])
   obtain⟨T,hT⟩: ∃T,Rt.sumI (D.map fun p=>Rt.sizeOf s.roll.lots p.1)=T:=⟨_,rfl⟩
   rw[hT]at hsum hbd ⊢
   have t1: -10000010000000000≤T:=by omega
   have t2:T≤10000010000000000:=by omega
   have t3:=hbz.2.1
   have t4:=hbz.2.2.1
   have HS1:=Lib.hid hS1
   have HO1:=Lib.hid hO1
   have HRG:=Lib.hid hrg
   clear hS1 hO1 hrg hv hlx hmem hxm hx hbz hbd hlen hT hsz hxk
   go_wp2
   go_roundw
   case rel=>exact⟨_,n2,D++[(k,v)],HS1,HO1,hrg2,by rw[hsum.out],b2⟩
   case measure=>rw[hrg2.left_eq,HRG.out.left_eq];exact hlt
end Go.Proofs.YtcffonnijhhhiaaGreatDoor
namespace Go.Proofs.YtcffonnijhhhiaaGreatDoor
open Go Go.RowKit Go.Maps Mp
attribute [-simp] Prod.forall Prod.exists
theorem sumB_a (A:Option Addr)(c:Nat)(l:List Int)(w:World)(hl:Ints w w.heap.size A l)(hm:l.length≤1000001)(hz: ∀z∈l,-10000000000≤z∧z≤10000000000):
  Calls Tryz.prog 139 #[.slice A l.length c] w fun e w'=>e=.returned (.int .i64 (Rt.sumI l))∧w=w':=by
 go_enter Tryz.func139,Tryz.ntmps139
 go_wp2
 go_loop [3,8] (fun s i=> ∃k:Nat,k≤l.length∧i=.int .i64 k∧s=.int .i64 (Rt.sumI (l.take k))) (fun _ i=>l.length-(intOf i).toNat)
 case atStart=>exact⟨0,by omega,rfl,rfl⟩
 case round=>
  obtain⟨k,hk,rfl,rfl⟩:=hrel
  have hbd:=sumI_bd (l:=l.take k) (m:=10000000000) fun z hz'=>hz z (List.mem_of_mem_take hz')
  have hlen:((l.take k).length:Int)≤1000001:=by have:=List.length_take_le k l;omega
  have hlen0:(0:Int)≤((l.take k).length:Int):=by omega
  obtain⟨hb1,hb2⟩:=hbd
  have hb3: -10000010000000000≤Rt.sumI (l.take k):=by omega
  have hb4:Rt.sumI (l.take k)≤10000010000000000:=by omega
  clear hb1 hb2 hlen hlen0
  by_cases hlt:k<l.length
  ·obtain⟨b,off,rfl,hbB,q0⟩:=Ints.at1 hl hlt
   obtain⟨z1,z2⟩:=hz _ (List.getElem_mem hlt)
   have HS:=Lib.hid (show Rt.sumI (l.take (k+1))=Rt.sumI (l.take k)+l[k] by rw[List.take_succ_eq_append_getElem hlt,sumI_app];simp[Rt.sumI])
   go_wp2
   go_round
   case rel=>exact⟨k+1,by omega,by go_num,by rw[HS.out]⟩
   case measure=>first|(simp[intOf];done)|(simp[intOf];omega)
  ·go_wp2
   go_ret
   exact⟨by rw[List.take_of_length_le (by omega)];rfl,rfl⟩
theorem stint_iff {s : Rt.St} (h : Rt.Inv s) (n o b : Int) : ((view s).stints (n, o)).map (·.1) = some b ↔ (o, b) ∈ (s.roll.stints.filter fun e => e.lot == n).map fun e => (e.owner, e.beasts) := by
 unfold view
 simp only[Option.map_map,List.mem_map,List.mem_filter]
 constructor
 ·intro hk
  obtain⟨e,he,hb⟩:=Option.map_eq_some_iff.1 hk
  obtain⟨h1,h2⟩:=Rt.findK_some Rt.Stint.key he
  have h3:e.lot=n∧e.owner=o:=by
   have:=Prod.mk.inj (show(e.lot,e.owner)=(n,o) from h2)
   exact this
  exact⟨e,⟨h1,by simp[h3.1]⟩,by rw[h3.2];exact congrArg _ hb⟩
 ·rintro⟨e,⟨h1,h2⟩,h3⟩
  obtain⟨rfl,rfl⟩:=Prod.mk.inj h3
  have h4:e.lot=n:=by simpa using h2
  subst h4
  rw[show(e.lot,e.owner)=e.key from rfl,Rt.findK_mem Rt.Stint.key h.stints h1]
  rfl
theorem beasts_sum {s : Rt.St} (h : Rt.Inv s) {n : Int} {D : List (Int × Int)} (hv : Visit (fun o => ((view s).stints (n, o)).map (·.1)) D) : Rt.sumI (D.map (·.2)) = beastsR s.roll n := by
 have hp:D.Perm ((s.roll.stints.filter fun e=>e.lot==n).map fun e=>(e.owner,e.beasts)):=by
  refine(List.perm_ext_iff_of_nodup ?_ ?_).2 fun p=>(hv.iff p.1 p.2).symm.trans (stint_iff h n p.1 p.2)
  ·exact List.nodup_iff_pairwise_ne.2 ((List.pairwise_map.1 (List.nodup_iff_pairwise_ne.1 hv.nd)).imp (fun h e=>h (by rw[e])))
  ·rw[List.nodup_iff_pairwise_ne,List.pairwise_map]
   have h1:=(List.pairwise_map.1 (asc2_lt h.stints)).filter (fun e:Rt.Stint=>e.lot==n)
   refine List.Pairwise.imp_of_mem (fun {a b} ha hb hab e=> ?_) h1
   have h2:a.lot=n:=by simpa using (List.mem_filter.1 ha).2
   have h3:b.lot=n:=by simpa using (List.mem_filter.1 hb).2
   have h4:=(Prod.mk.inj e).1
   unfold Rt.Stint.key Rt.before at hab
   simp only at hab
   omega
 have := sum_perm (hp.map (·.2))
 rw[this,beastsR,List.map_map]
 rfl
attribute [-go_sem] loadVar storeVar Builtin.append_
attribute [local go_sem] lk_int lk_lots lk_parts lk_holds lk_mE lk_mS lk_sL lk_sE lk_sS fld0 fld1
set_option maxRecDepth 100000 in
set_option maxHeartbeats 2000000 in
theorem beasts_a (A:Option Addr)(c:Nat)(L:List Dp)(day n:Int)(w:World)(h:Dls w w.heap.size A L)(hm:L.length≤1000000):Calls Tryz.prog 66 #[.slice A L.length c,.int .i64 day,.int .i64 n] w fun e w'=>e=.returned (.int .i64 (beastsR (onR (dls L) day) n))∧Below w.heap.size w w':=by
 have ho:=onSt_a A c L day w h hm
 unfold EndOd at ho
 by_cases h0:(Rt.check (dls L)).2=0
 case neg=>
  simp only[h0,if_false]at ho
  have hr:onR (dls L) day=⟨[],[],[]⟩:=if_neg h0
  rw[hr]
  have hq2:((Rt.check (dls L)).2 !=0)=true:=by simpa using h0
  have hq3:((Rt.check (dls L)).2==0)=false:=by simpa using h0
  generalize (Rt.check (dls L)).2=E2 at ho hq2 hq3
  clear h0 hr h
  go_enter Tryz.func66,Tryz.ntmps66
  go_wp2_with fail
  refine ho.mono ?_
  rintro e w' ⟨hb,rfl⟩
  go_wp2
  go_ret
  exact⟨rfl,hb⟩
 simp only[h0,if_true]at ho
 have hr:onR (dls L) day=(stDay (dls L) day).roll:=if_pos h0
 rw[hr]
 generalize stDay (dls L) day=s at ho ⊢
 clear h h0 hr
 go_enter Tryz.func66,Tryz.ntmps66
 go_wp2_with fail
 refine ho.mono ?_
 clear ho
 rintro e w1 ⟨b1,sb,bu,bl,be,bs,ad,rfl,hS,hin⟩
 have hz:=hS.lt
 obtain⟨hc,hf⟩:=blk_cells hS.blk
 have hgz:=grazed_a hS n
 have hinv:=Lib.hid hin
 have z1:=b1.size
 clear hc hf
 go_wp2_with fail
 refine hgz.mono ?_
 clear hgz
 rintro e w2 ⟨rfl,hfm,b2⟩
 have hfm2 : FM ekI okI w2 w1.heap.size (fun o => (((view s).stints (n, o)).map (·.1)).map (Value.int .i64)) := hfm
 have hgv:=gives_V (heap_alloc_new w2 (.cells #[.map (some w1.heap.size)] 134)) (hfm2.alloc _)
 have hlen : ∀ l : List Int, (∃ D : List (Int × Int), Visit (fun o => ((view s).stints (n, o)).map (·.1)) D ∧ l = D.map (·.2)) → l.length ≤ 1000001 := by
  rintro l ⟨D,hD,rfl⟩
  have:=len_okI hD.nd (fun k hk=>fm_ok hfm2 kI.inj (by
   rw[Option.isSome_map]
   exact(visit_keys hD k).1 hk))
  simpa using this
 have hco:=collect_I _ _ _ _ _ (enters_of Tryz.func203 (by kernel_rfl) rfl) hgv (fun l hl=>Nat.le_trans hl (by decide))
 have b3':Below w2.heap.size w2 (w2.alloc (.cells #[.map (some w1.heap.size)] 134)):=by go_grown
 clear hgv hfm
 go_wp2_with fail
 refine(keys_V w1.heap.size w2).mono ?_
 rintro e w3 ⟨rfl,rfl⟩
 go_wp2_with fail
 refine hco.mono ?_
 clear hco
 rintro e w4 ⟨l,hd,A4,c4,rfl,how,b4⟩
 obtain⟨A5,c5,e5,hseg,_,_⟩:=own_seg layI how
 cases e5
 have hl4:=hlen l hd
 obtain⟨D,hD,hlD⟩:=hd
 have hsm:=sumB_a A4 c4 l w4 hseg hl4 (fun z hz=>by
  rw[hlD]at hz
  obtain⟨p,hp,rfl⟩:=List.mem_map.1 hz
  have:=(stint_iff hinv.out n p.1 p.2).1 ((hD.iff p.1 p.2).2 hp)
  obtain⟨x,hx,e⟩:=List.mem_map.1 this
  have h6:=hinv.out.sok x (List.mem_filter.1 hx).1
  have h7:=(Prod.mk.inj e).2
  omega)
 have hv:Hid (Rt.sumI l=beastsR s.roll n):=Lib.hid (by rw[hlD];exact beasts_sum hinv.out hD)
 have bb:Below w.heap.size w w4:=b1.trans ((b2.trans ((b3'.mono b2.size).trans (b4.mono (by have:=b2.size;simp;omega)))).mono z1)
 clear hD hlD how hseg hlen
 go_wp2_with fail
 refine hsm.mono ?_
 rintro e w5 ⟨rfl,rfl⟩
 go_wp2
 go_ret
 exact⟨by rw[hv.out];rfl,bb⟩
end Go.Proofs.YtcffonnijhhhiaaGreatDoor
namespace Go.Proofs.YtcffonnijhhhiaaGreatDoor
open Go Go.RowKit Go.Maps Mp
attribute [-simp] Prod.forall Prod.exists
attribute [-go_sem] Builtin.append_
def pickR (sel:Int×Int→Int×Bool)(r:Rt.Roll)(l':List Int):Prop:=l'.Pairwise (fun x y=>x≤y)∧l'.Perm ((r.eases.filter fun e=>(sel e.key).2).map fun e=>(sel e.key).1)
theorem ease_perm {s:Rt.St}(h:Rt.Inv s){D:List ((Int×Int)×Int)}(hv:Visit (view s).eases D):D.Perm (s.roll.eases.map fun e=>(e.key,e.deal)):=by
 refine(List.perm_ext_iff_of_nodup ?_ ?_).2 fun p=>(hv.iff p.1 p.2).symm.trans ?_
 ·exact List.nodup_iff_pairwise_ne.2 ((List.pairwise_map.1 (List.nodup_iff_pairwise_ne.1 hv.nd)).imp (fun h e=>h (by rw[e])))
 ·rw[List.nodup_iff_pairwise_ne,List.pairwise_map]
  exact(List.pairwise_map.1 (asc2_lt h.eases)).imp (fun hab e=>hab.ne (Prod.mk.inj e).1)
 ·unfold view
  simp only[List.mem_map]
  constructor
  ·intro hk
   obtain⟨e,he,hb⟩:=Option.map_eq_some_iff.1 hk
   obtain⟨h1,h2⟩:=Rt.findK_some Rt.Ease.key he
   exact⟨e,h1,Prod.ext h2 hb⟩
  ·rintro⟨e,h1,rfl⟩
   simp only[Rt.findK_mem Rt.Ease.key h.eases h1,Option.map_some]
theorem pick_seen {s:Rt.St}(h:Rt.Inv s){sel:Int×Int→Int×Bool}{D:List ((Int×Int)×Int)}(hv:Visit (view s).eases D){l':List Int}(hs:SortedOf (fun x y:Int=>x≤y) ((D.filter fun p=>(sel p.1).2).map fun p=>(sel p.1).1) l'):pickR sel s.roll l':=by
 refine⟨hs.2.1,hs.1.trans ?_⟩
 have h1:=((ease_perm h hv).filter (fun p=>(sel p.1).2)).map (fun p=>(sel p.1).1)
 rw[List.filter_map,List.map_map]at h1
 exact h1
set_option maxRecDepth 100000 in
set_option maxHeartbeats 2000000 in
theorem eased_a (A:Option Addr)(c:Nat)(L:List Dp)(day:Int)(w:World)(h:Dls w w.heap.size A L)(hm:L.length≤1000000)(pick:FuncId)(cap:Array Value)(sel:Int×Int→Int×Bool)(hen: ∀args w,(callFunc pick args).run Tryz.prog w=.ok (.enter pick args) w)(hp: ∀(k:Int×Int) W,Below w.heap.size w W→Calls Tryz.prog pick (#[.agg #[.int .i64 k.1,.int .i64 k.2]]++cap) W fun e W'=>e=.returned (.tuple #[.int .i64 (sel k).1,.bool (sel k).2])∧Below W.heap.size W W'):Calls Tryz.prog 143 #[.slice A L.length c,.int .i64 day,.func (.func pick) #[] cap] w fun e w'=> ∃l' A' c',Hid (pickR sel (onR (dls L) day) l')∧e=.returned (.slice A' l'.length c')∧w'.ownsRow w.heap.size 3 1 (.slice A' l'.length c') l'.length (l'.flatMap encInt)∧Below w.heap.size w w':=by
 have ho:=onSt_a A c L day w h hm
 unfold EndOd at ho
 by_cases h0:(Rt.check (dls L)).2=0
 case neg=>
  simp only[h0,if_false]at ho
  have hr:onR (dls L) day=⟨[],[],[]⟩:=if_neg h0
  rw[hr]
  have hq2:((Rt.check (dls L)).2 !=0)=true:=by simpa using h0
  have hq3:((Rt.check (dls L)).2==0)=false:=by simpa using h0
  generalize (Rt.check (dls L)).2=E2 at ho hq2 hq3
  clear h0 hr h
  go_enter Tryz.func143,Tryz.ntmps143
  go_wp2_with fail
  refine ho.mono ?_
  rintro e w' ⟨hb,rfl⟩
  go_wp2
  go_ret
  exact⟨[],none,0,Lib.hid ⟨.nil,List.Perm.refl _⟩,rfl,World.ownsRow_nil _ _ _ _,hb⟩
 simp only[h0,if_true]at ho
 have hr:onR (dls L) day=(stDay (dls L) day).roll:=if_pos h0
 rw[hr]
 generalize stDay (dls L) day=s at ho ⊢
 clear h h0 hr
 go_enter Tryz.func143,Tryz.ntmps143
 go_wp2_with fail
 refine ho.mono ?_
 clear ho
 rintro e w1 ⟨b1,sb,bu,bl,be,bs,ad,rfl,hS,hin⟩
 have hz:=hS.lt
 obtain⟨hc,hf⟩:=blk_cells hS.blk
 have hinv:=Lib.hid hin
 have z1:=b1.size
 have HP:=Lib.hid hp
 clear hp
 go_wp2_with (first
  |(at_range;refine wpList_range_fm _ rfl _ _ rfl kP Tryz.underlying129 rfl hS.eases ?_;intro w0 n0 hrg0 hg0 hs0)
  |go_in)
 try go_frame
 have b0:Below w1.heap.size w1 w0:=⟨hg0.os,hg0.tape,hg0.output,hg0.size,fun i hi=>hg0.block i hi (by simp)⟩
 have z0:=b0.size
 clear hc hf
 go_loopw [9] (fun sv wr=> ∃(left:Int×Int→Bool) (m:Nat) (D:List ((Int×Int)×Int)) (A':Option Addr) (c':Nat),Hid (Seen (view s).eases D left)∧Hid (∀p∈D,okP p.1)∧RG ekP okP wr be w1.heap.size (fI (view s).eases) left m∧sv=.slice A' ((D.filter fun p=>(sel p.1).2).map fun p=>(sel p.1).1).length c'∧Hid (wr.ownsRow (w1.heap.size+1) 3 1 (.slice A' ((D.filter fun p=>(sel p.1).2).map fun p=>(sel p.1).1).length c') ((D.filter fun p=>(sel p.1).2).map fun p=>(sel p.1).1).length (((D.filter fun p=>(sel p.1).2).map fun p=>(sel p.1).1).flatMap encInt))∧Below w1.heap.size w1 wr∧w1.heap.size+1≤wr.heap.size) (fun _ wr=>wr.rangeLeft be w1.heap.size)
 case atStart=>exact⟨fun k=>((view s).eases k).isSome,n0,[],none,0,Lib.hid (Seen.start _),Lib.hid (fun p hp=>by cases hp),by simpa [fI]using hrg0,rfl,Lib.hid (World.ownsRow_nil _ _ _ _),b0,by omega⟩
 case round=>
  obtain⟨left,m,D,A',c',HS,HO,hrg,rfl,HW,hb,hzr⟩:=hrel
  obtain⟨O,hO⟩: ∃O,((D.filter fun p=>(sel p.1).2).map fun p=>(sel p.1).1)=O:=⟨_,rfl⟩
  rw[hO]at HW ⊢
  have hlO:O.length≤1000002000001:=by
   have h1 := len_okP (l := D.map (·.1)) HS.out.nd (fun y hy => by obtain ⟨p, hp, rfl⟩ := List.mem_map.1 hy; exact HO.out p hp)
   have h2:=List.length_filter_le (fun p:(Int×Int)×Int=>(sel p.1).2) D
   rw[←hO,List.length_map]
   rw[List.length_map]at h1
   omega
  have HOO:=Lib.hid hO
  clear hO
  go_wp2_with (first
   |(at_next;refine wpList_next_rg _ rfl _ rfl kP (Value.int .i64) (view s).eases (fun _=>rfl) _ _ rfl hrg ?_ ?_)
   |go_in)
  ·intro hl0
   have hv:=HS.out.done hl0
   have hso:=sortS_a A' c' O wr HW.out (by omega)
   go_wp2_with fail
   refine hso.mono ?_
   clear hso
   rintro e w5 ⟨rfl,l',hs,how,hgr⟩
   have HF:=Lib.hid (pick_seen (sel:=sel) hinv.out hv (by rw[HOO.out];exact hs))
   have hlen:=Lib.hid hs.2.2
   have hbel:Below w1.heap.size w1 w5:=hb.grown hgr hb.size (fun j ej=>by
    cases A' with
    |none=>cases ej
    |some a=>
     have h1:=(HW.out.lt a.block (by
      rcases HW.out.2 with ⟨h2,_⟩|⟨g,cap,cur,h2,_⟩
      ·cases h2
      ·cases h2;rfl)).1
     have h2:a.block=j:=Option.some.inj ej
     omega)
   have how2:=Lib.hid how
   clear hs how hv
   go_wp2
   go_ret
   refine⟨l',A',c',HF,by rw[hlen.out];rfl,⟨how2.out.1,?_⟩,b1.trans (hbel.mono z1)⟩
   rcases how2.out.2 with h4|⟨g,cap,cur,h4,h5,h6⟩
   ·exact .inl h4
   ·exact .inr ⟨g,cap,cur,h4,by omega,h6⟩
  ·intro k v w2 n2 hk hlx hv hrg2 hlt hg2 hs2 hen2
   have hS1:=HS.out.step hv hlx
   have hO1: ∀p∈D++[(k,v)],okP p.1:=fun p hp=>by
    rcases List.mem_append.1 hp with hp|hp
    ·exact HO.out p hp
    ·rw[List.mem_singleton.1 hp];exact hk
   have b2:Below w1.heap.size w1 w2:=⟨hg2.os.trans hb.os,hg2.tape.trans hb.tape,hg2.output.trans hb.output,Nat.le_trans hb.size hg2.size,fun i hi=>(hg2.block i (by have:=hb.size;omega) (by simp;omega)).trans (hb.block i hi)⟩
   have oW2:=HW.out.kept hg2 (by
    cases e:(Value.slice A' O.length c').ownBlock with
    |none=>exact .inl rfl
    |some g=>
     right
     have:=(HW.out.lt g e).1
     simp
     omega)
   have b3:Below w2.heap.size w2 (w2.alloc (.cells #[.int .i64 k.1,.int .i64 k.2] 163)):=by go_grown
   have z2:=b2.size
   have hcl:=HP.out k (w2.alloc (.cells #[.int .i64 k.1,.int .i64 k.2] 163)) ((b1.trans (b2.mono z1)).trans (b3.mono (by omega)))
   have HS1:=Lib.hid hS1
   have HO1:=Lib.hid hO1
   have HRG:=Lib.hid hrg
   have HV:=Lib.hid hv
   obtain⟨y,hy⟩: ∃y,(sel k).1=y:=⟨_,rfl⟩
   clear hS1 hO1 hrg hlx hv
   cases hq:(sel k).2 with
   |false=>
    rw[hq,hy]at hcl
    have HQ:=Lib.hid hq
    clear hq hy
    go_wp2_with fail
    refine hcl.mono ?_
    clear hcl
    rintro e w4 ⟨rfl,b4⟩
    have b24:Below w2.heap.size w2 w4:=b3.trans (b4.mono b3.size)
    have hrg4:=hrg2.same (b24.block _ hrg2.fm.lt) (b24.block _ hrg2.lt)
    have hD:Hid (((D++[(k,v)]).filter fun p=>(sel p.1).2).map (fun p=>(sel p.1).1)=O):=Lib.hid (by rw[←HOO.out];simp[HQ.out])
    have HW4:=Lib.hid (own_below oW2 b24)
    go_wp2
    go_roundw
    case rel=>exact⟨_,n2,D++[(k,v)],A',c',HS1,HO1,hrg4,by rw[hD.out],by rw[hD.out];exact HW4,b2.trans (b24.mono z2),by have:=b24.size;omega⟩
    case measure=>rw[hrg4.left_eq,HRG.out.left_eq];exact hlt
   |true=>
    rw[hq,hy]at hcl
    have HQ:=Lib.hid hq
    have HY:=Lib.hid hy
    clear hq hy
    go_wp2_with fail
    refine hcl.mono ?_
    clear hcl
    rintro e w4 ⟨rfl,b4⟩
    have b24:Below w2.heap.size w2 w4:=b3.trans (b4.mono b3.size)
    have oW4:=own_below oW2 b24
    have z4:=b24.size
    obtain⟨g',c2,w6,hrun,ho6,hb6,hw6⟩:=own_push layI oW4 y #[.int .i64 y] rfl (by omega) (by decide) (by omega)
    have el:(O++[y]).length=O.length+1:=by simp
    rw[el]at hrun
    have hrg4:=hrg2.same (b24.block _ hrg2.fm.lt) (b24.block _ hrg2.lt)
    obtain⟨o1,o2,e1,e2,e3,e4⟩:=rg_fix hrg4
    have hrg6:=hrg4.same ((hw6 _ _ e1 e2).trans e1.symm) ((hw6 _ _ e3 e4).trans e3.symm)
    have hD:Hid (((D++[(k,v)]).filter fun p=>(sel p.1).2).map (fun p=>(sel p.1).1)=O++[y]):=Lib.hid (by rw[←HOO.out];simp[HQ.out,HY.out])
    have HW6:=Lib.hid ho6
    have hb1:Below w1.heap.size w1 w6:=(b2.trans (b24.mono z2)).trans (hb6.mono (by omega))
    have hz6:=hb6.size
    clear ho6 oW4 oW2 hw6 e1 e2 e3 e4
    go_wp2
    go_roundw
    case rel=>exact⟨_,n2,D++[(k,v)],_,c2,HS1,HO1,hrg6,by rw[hD.out,el],by rw[hD.out];exact HW6,hb1,by omega⟩
    case measure=>rw[hrg6.left_eq,HRG.out.left_eq];exact hlt
end Go.Proofs.YtcffonnijhhhiaaGreatDoor
namespace Go.Proofs.YtcffonnijhhhiaaGreatDoor
open Go Go.RowKit Go.Maps Mp
attribute [-simp] Prod.forall Prod.exists
def forR (r : Rt.Roll) (n : Int) : List Int := (r.eases.filter fun e => e.of == n).map (·.over)
def overR (r : Rt.Roll) (n : Int) : List Int := (r.eases.filter fun e => e.over == n).map (·.of)
theorem le_perm_eq {l m : List Int} (hl : l.Pairwise (fun x y => x ≤ y)) (hm : m.Pairwise (· < ·)) (h : l.Perm m) : l = m := by
 refine sorted_unique (R := (· < ·)) (fun a b h1 h2 => by omega) ?_ hm fun k => h.mem_iff
 have hn:l.Nodup:=h.nodup_iff.2 (List.nodup_iff_pairwise_ne.2 (hm.imp (fun h e=>by omega)))
 have h2:=List.pairwise_iff_getElem.1 (List.nodup_iff_pairwise_ne.1 hn)
 rw[List.pairwise_iff_getElem]at hl ⊢
 intro i j hi hj hij
 have h3:=hl i j hi hj hij
 have h4:=h2 i j hi hj hij
 omega
theorem eases_asc {l:List Dl}{day:Int}:Rt.asc2 ((onR l day).eases.map Rt.Ease.key):=by
 unfold onR
 split
 ·rename_i h
  exact((Rt.checkGo_iff _ _ _).1 (Rt.on_right h day)|>fun _=>Rt.check_inv (Rt.on_right h day)).eases
 ·exact trivial
theorem for_asc (l : List Dl) (day n : Int) : (forR (onR l day) n).Pairwise (· < ·) := by
 unfold forR
 rw[List.pairwise_map]
 refine List.Pairwise.imp_of_mem (fun {a b} ha hb hab=> ?_) ((List.pairwise_map.1 (asc2_lt (eases_asc (l:=l) (day:=day)))).filter _)
 have h2:a.of=n:=by simpa using (List.mem_filter.1 ha).2
 have h3:b.of=n:=by simpa using (List.mem_filter.1 hb).2
 unfold Rt.Ease.key Rt.before at hab
 simp only at hab
 omega
set_option maxRecDepth 100000 in
theorem for1_a (k:Int×Int)(n:Int)(b:Nat)(w:World)(hb:w.heap[b]?=some (.cells #[.int .i64 n] 3 (0,0))):Calls Tryz.prog 148 (#[.agg #[.int .i64 k.1,.int .i64 k.2]]++ #[.pointer (some ⟨b,0,none⟩)]) w fun e w'=>e=.returned (.tuple #[.int .i64 k.1,.bool (k.2==n)])∧Below w.heap.size w w':=by
 have b1:Below w.heap.size w (w.alloc (.cells #[.int .i64 k.1,.int .i64 k.2] 163)):=by go_grown
 obtain⟨W,hW⟩: ∃W:World,W=(w.alloc (.cells #[.int .i64 k.1,.int .i64 k.2] 163)).drew:=⟨_,rfl⟩
 have bW:Below w.heap.size w W:=by rw[hW];exact below_drew b1
 obtain⟨hc,hf⟩:=blk_cells ((bW.block _ (Array.getElem?_eq_some_iff.1 hb).1).trans hb)
 obtain⟨hc1,hf1⟩:=blk_cells (show W.heap[w.heap.size]?=some (.cells #[.int .i64 k.1,.int .i64 k.2] 163 (0,0)) by rw[hW];exact heap_alloc_new w _)
 have HW:=Lib.hid hW
 clear hW
 go_enter Tryz.func148,Tryz.ntmps148
 go_wp2
 refine still_all HW.out (by kernel_rfl) (by kernel_rfl) ?_
 repeat still_step
 refine wpStill_nil ?_
 go_wp2
 refine bodyPost_ret (v:=.tuple #[.int .i64 k.1,.bool (k.2==n)]) (by simp[results,Tryz.results148,go_sem]) rfl ?_
 exact⟨rfl,bW⟩
set_option maxRecDepth 100000 in
theorem for_a (A:Option Addr)(c:Nat)(L:List Dp)(day n:Int)(w:World)(h:Dls w w.heap.size A L)(hm:L.length≤1000000):Calls Tryz.prog 73 #[.slice A L.length c,.int .i64 day,.int .i64 n] w (EndN w (forR (onR (dls L) day) n)):=by
 have b1:Below w.heap.size w (w.alloc (.cells #[.int .i64 n] 3)):=by go_grown
 have k1:=heap_alloc_new w (.cells #[.int .i64 n] 3)
 have he:=eased_a A c L day _ (h.up b1) hm 148 #[.pointer (some ⟨w.heap.size,0,none⟩)] (fun k=>(k.1,k.2==n)) (enters_of Tryz.func148 (by kernel_rfl) rfl) (fun k W hW=>for1_a k n _ W ((hW.block _ (by simp)).trans k1))
 clear h
 go_enter Tryz.func73,Tryz.ntmps73
 go_wp2_with fail
 refine he.mono ?_
 clear he
 rintro e w2 ⟨l',A',c',HP,rfl,ho,b2⟩
 have hl:l'=forR (onR (dls L) day) n:=le_perm_eq HP.out.1 (for_asc _ _ _) HP.out.2
 have HO:=Lib.hid ho
 have HL:=Lib.hid hl
 clear ho hl
 go_wp2
 go_ret
 rw[←HL.out]
 refine⟨A',c',rfl,⟨HO.out.1,?_⟩,b1.trans (b2.mono (by simp))⟩
 rcases HO.out.2 with h4|⟨g,cap,cur,h4,h5,h6⟩
 ·exact .inl h4
 ·exact .inr ⟨g,cap,cur,h4,by simp at h5;omega,h6⟩
end Go.Proofs.YtcffonnijhhhiaaGreatDoor
