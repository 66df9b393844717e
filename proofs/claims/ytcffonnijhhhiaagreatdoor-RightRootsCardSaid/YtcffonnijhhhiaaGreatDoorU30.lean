/- Part U30 of the proof: Rn Rx Ne Cg Ch On Oo Fn Fo Fw. -/
import Derived.Test.YtcffonnijhhhiaaGreatDoorProg
import Derived.WalkKit
import Derived.WalkLawsBesides
import Derived.WalkSpells
import Derived.Handy
import Derived.Lib.Hide
import Derived.Great.BuildSlice
import Derived.Deep.QuietTactic
import Derived.BigQuiet
import Derived.Deep.RegionHeld3
import Derived.Deep.DeepCutAuto
import Derived.Deep.CutBlock
import Derived.Test.YtcffonnijhhhiaaGreatDoorU28
import Derived.Test.YtcffonnijhhhiaaGreatDoorU29
import Derived.Test.YtcffonnijhhhiaaGreatDoorU21
import Derived.Test.YtcffonnijhhhiaaGreatDoorU07
import Derived.Test.YtcffonnijhhhiaaGreatDoorU19
import Derived.Test.YtcffonnijhhhiaaGreatDoorU22
import Derived.Test.YtcffonnijhhhiaaGreatDoorU25
import Derived.Test.YtcffonnijhhhiaaGreatDoorU26
set_option linter.all false
set_option linter.unusedSimpArgs false
set_option linter.unusedVariables false
set_option linter.unusedSectionVars false
namespace Go.Proofs.YtcffonnijhhhiaaGreatDoor
open Go Go.RowKit Go.Maps Mp
attribute [-simp] Prod.forall Prod.exists
attribute [-go_sem] loadVar storeVar Builtin.append_
attribute [local go_sem] lk_int lk_u8 lk_ints lk_str
set_option maxRecDepth 100000 in
set_option maxHeartbeats 4000000 in
theorem read_no2 (s:ByteArray)(w:World)(hE:Env w)(hs:s.size≤1000000)(h4:4≤(Rt.cut s).length)(h24:(Rt.cut s).length≤24)(hf:Rt.fine (Rt.dat (Rt.cut s))=false):Calls Tryz.prog 25 #[.string s] w (EndRd w s):=by
 have HR:=Lib.hid (Rt.read_fine hf)
 have b1:Below w.heap.size w (w.alloc (.cells zcs 24)):=by go_grown
 have k1:=heap_alloc_new w (.cells zcs 24)
 obtain⟨W1,hW1⟩: ∃W1,W1=w.alloc (.cells zcs 24):=⟨_,rfl⟩
 have hWz:W1.heap.size=w.heap.size+1:=by rw[hW1];simp
 rw[←hW1]at b1 k1
 have hsp:=split_a s W1 (hE.up b1) hs
 obtain⟨n,hn⟩: ∃n,(Rt.cut s).length=n:=⟨_,rfl⟩
 obtain⟨ws,hws⟩: ∃ws,Rt.dat (Rt.cut s)=ws:=⟨_,rfl⟩
 obtain⟨wd,hwd⟩: ∃wd:Nat→ByteArray,∀k,(Rt.cut s).getD k ⟨#[]⟩=wd k:=⟨_,fun _=>rfl⟩
 have HWS:Hid (ws.length=n∧ ∀k,k<n→ws.getD k []=(wd k).data.toList∧(wd k).size≤1000000):=Lib.hid (by
  subst hn hws
  refine⟨by simp[Rt.dat],fun k hk=> ?_⟩
  rw[←hwd,List.getD_eq_getElem?_getD,List.getD_eq_getElem?_getD,List.getElem?_eq_getElem hk]
  unfold Rt.dat
  rw[List.getElem?_map,List.getElem?_eq_getElem hk]
  refine⟨rfl,?_⟩
  have:=Rt.cut_size ⟨#[32]⟩ 0 _ s (Rt.cut s)[k] (List.getElem_mem hk)
  simp only[Option.getD_some]
  omega)
 rw[hn]at hsp
 have hsp2:Calls Tryz.prog 91 #[.string s,.string ⟨#[32]⟩] W1 fun e w'=>e=.returned (.slice (some ⟨W1.heap.size,0,none⟩) n n)∧Below W1.heap.size W1 w'∧Hid (W1.heap.size<w'.heap.size)∧Hid (∀k,k<n→w'.cell? ⟨W1.heap.size,k,none⟩=some (.string (wd k))):=by
  refine hsp.mono ?_
  rintro e w' ⟨h1,h2,h3,h4⟩
  exact⟨h1,h2,Lib.hid h3,Lib.hid fun k hk=>by rw[h4 k hk,hwd]⟩
 have HE:=Lib.hid hE
 have HWz:=Lib.hid hWz
 have HWD:=Lib.hid hwd
 have HN4:=Lib.hid h4
 rw[hn]at h4 HN4 h24
 have HF:Hid (Rt.fine ws=false):=Lib.hid (by rw[←hws];exact hf)
 clear hws hn hf hsp hwd hE hWz
 go_enter Tryz.func25,Tryz.ntmps25
 go_wp2_with fail
 rw[←hW1]
 clear hW1
 refine hsp2.mono ?_
 clear hsp2
 rintro e w2 ⟨rfl,b2,HW2,HC⟩
 have HB2:=Lib.hid b2
 have HB1:=Lib.hid b1
 have HK1:=Lib.hid k1
 have hin:Rt.inR (n:Int) 4 24=true:=by
  unfold Rt.inR
  simp only[Bool.and_eq_true,decide_eq_true_eq]
  omega
 clear b1 b2 k1
 go_wp2_with (go_at_call 92;refine(within_a _ _ _ _).mono ?_;rintro e w' ⟨rfl,rfl⟩)
 clear hin
 have HZ0:=Lib.hid (Below.refl w2.heap.size w2)
 have HNil:=Lib.hid (World.ownsRow_nil w2 w2.heap.size 3 1)
 go_loopw [5,25] (fun v i wr=> ∃(j:Nat) (ns:List Int),j≤n∧i=.int .i64 j∧Hid (Below w2.heap.size w2 wr)∧Hid (wr.ownsRow w2.heap.size 3 1 v ns.length (ns.flatMap encInt))∧Hid (Rt.NsOk ws ns j)) (fun _ i _=>n-(intOf i).toNat)
 case atStart=>exact⟨0,[],by omega,rfl,HZ0,HNil,Lib.hid (Rt.NsOk.zero ws)⟩
 case round=>
  obtain⟨j,ns,hj,rfl,HBr,HOr,HNs⟩:=hrel
  by_cases hlt:j<n
  ·have hbr:=HBr.out
   have q1:wr.cell? ⟨W1.heap.size,j,none⟩=some (.string (wd j)):=(hbr.cell (p:=⟨W1.heap.size,j,none⟩) HW2.out).trans (HC.out j hlt)
   have bw:Below w.heap.size w wr:=HB1.out.trans ((HB2.out.mono HB1.out.size).trans (hbr.mono (Nat.le_trans HB1.out.size HB2.out.size)))
   obtain⟨hw1,hw2⟩:=HWS.out.2 j hlt
   have hat:=atoi_a (wd j) (by omega) wr (HE.out.up bw)
   have HW1:=Lib.hid hw1
   obtain⟨b,hb⟩: ∃b,wd j=b:=⟨_,rfl⟩
   rw[hb]at q1 hat HW1
   have HBj:=Lib.hid hb
   have HBW:=Lib.hid bw
   clear hbr bw hw1 hw2 hb
   go_wp2_with fail
   refine hat.mono ?_
   clear hat
   rintro e w5 ⟨v5,ev,rfl,hend,b5⟩
   have HB5:=Lib.hid (HBr.out.trans (b5.mono HBr.out.size))
   have HO5:=Lib.hid (own_below HOr.out b5)
   have HBW5:=Lib.hid (HBW.out.trans (b5.mono HBW.out.size))
   clear b5 HOr HBr HBW q1
   rcases hend with ⟨hok,rfl⟩|⟨hbad,t,p,rfl⟩
   ·have HNv:=Lib.hid (show Rt.isNum (ws.getD j [])=some v5 by rw[HW1.out];unfold Rt.isNum;rw[hok])
    clear hok
    obtain⟨v6,w6,hrun,ho6,hb6⟩:=own_more layI (w1:=w5) HO5.out [v5] (ns++[v5]) 0 rfl #[.int .i64 v5] rfl rfl (by rw[HNs.out.1];omega) (by decide) HB5.out.size
    have HO6:=Lib.hid ho6
    have HB6:=Lib.hid (HB5.out.trans hb6)
    have HNs2:Hid (Rt.NsOk ws (ns++[v5]) (j+1)):=Lib.hid (HNs.out.next fun _=>HNv.out)
    clear ho6 hb6
    go_wp2
    go_roundw
    case rel=>exact⟨j+1,ns++[v5],by omega,by go_num,HB6,HO6,HNs2⟩
    case measure=>first|(simp[intOf];done)|(simp[intOf];omega)
   ·by_cases h2:j=2
    ·have HJ2:=Lib.hid h2
     subst h2
     clear hbad
     obtain⟨v6,w6,hrun,ho6,hb6⟩:=own_more layI (w1:=w5) HO5.out [v5] (ns++[v5]) 0 rfl #[.int .i64 v5] rfl rfl (by rw[HNs.out.1];omega) (by decide) HB5.out.size
     have HO6:=Lib.hid ho6
     have HB6:=Lib.hid (HB5.out.trans hb6)
     have HNs2:Hid (Rt.NsOk ws (ns++[v5]) (2+1)):=Lib.hid (HNs.out.next fun h=>absurd rfl h)
     clear ho6 hb6
     go_wp2
     go_roundw
     case rel=>exact⟨3,ns++[v5],by omega,by go_num,HB6,HO6,HNs2⟩
     case measure=>first|(simp[intOf];done)|(simp[intOf];omega)
    ·have hj2:((j:Int)==2)=false:=by rw[beq_eq_false_iff_ne];omega
     have k5:w5.heap[w.heap.size]?=some (.cells zcs 24 (0,0)):=(HB5.out.block _ (by have:=HWz.out;have:=HB2.out.size;omega)).trans ((HB2.out.block _ (by have:=HWz.out;omega)).trans HK1.out)
     obtain⟨w6,st,k6,g6⟩:=st_row w5 w.heap.size 24 24 zcs zcs k5 info_deal rfl (by simp[Value.oneCell'])
     have l6:=ld_row k6 Tryz.underlying24 rfl info_deal
     have HB:=Lib.hid (HBW5.out.grown g6 (by have:=(Array.getElem?_eq_some_iff.1 k5).1;omega) (by intro k e;cases e;exact Nat.le_refl _))
     clear g6 k5 hbad
     go_wp2
     refine bodyPost_ret (v:=.tuple #[.agg zcs,.int .i64 4]) (by simp[results,Tryz.results25,go_sem,l6]) rfl ?_
     exact EndRd.no HR.out HB.out
  ·obtain rfl:j=n:=by omega
   exfalso
   have h1:=HF.out
   rw[Bool.eq_false_iff]at h1
   refine h1 (Rt.fine_iff.2 fun i hi h2=> ?_)
   rw[HWS.out.1]at hi
   have:=HNs.out.2 i hi h2
   rw[this,List.getElem?_eq_getElem (by rw[HNs.out.1];exact hi)]
   rfl
end Go.Proofs.YtcffonnijhhhiaaGreatDoor
namespace Go.Proofs.YtcffonnijhhhiaaGreatDoor
open Go Go.RowKit
theorem read_a (s:ByteArray)(w:World)(hE:Env w)(hs:s.size≤1000000):Calls Tryz.prog 25 #[.string s] w (EndRd w s):=by
 by_cases h:4≤(Rt.cut s).length∧(Rt.cut s).length≤24
 ·cases hf:Rt.fine (Rt.dat (Rt.cut s))with
  |true=>exact read_ok s w hE hs h.1 h.2 hf
  |false=>exact read_no2 s w hE hs h.1 h.2 hf
 ·exact read_no1 s w hE hs h
end Go.Proofs.YtcffonnijhhhiaaGreatDoor
namespace Go.Proofs.Rt
theorem part_len (l:List Deal)(id:Int):(partGo l id).2.1.length+(partGo l id).2.2.length=l.length:=by
 have key: ∀(m:List Deal) (q:St×List Deal×List Deal),(m.foldl (part1 id) q).2.1.length+(m.foldl (part1 id) q).2.2.length=q.2.1.length+q.2.2.length+m.length:=by
  intro m
  induction m with
  |nil=>intro q;rfl
  |cons x m ih=>
   intro q
   rw[List.foldl_cons,ih]
   unfold part1
   split<;>simp<;>omega
 unfold partGo
 simpa using key l (St.begun,[],[])
theorem partF_len (l:List Deal)(id:Int):(partF l id).length≤l.length:=by
 unfold partF
 have:=part_len l id
 split
 ·omega
 ·simp
def needsL (l : List Deal) (id : Int) : List Int := ((l.take ((idx (fun x => x == id) (l.map (·.id))).getD 0)).filter fun x => ((partF l x.id).map (·.id)).contains id).map (·.id)
def needsE (l : List Deal) (id : Int) : Int := if (check l).2 ≠ 0 then (check l).2 else if (idx (fun x => x == id) (l.map (·.id))).isNone then 5 else 0
def needsR (l:List Deal)(id:Int):List Int:=if needsE l id=0 then needsL l id else []
end Go.Proofs.Rt
namespace Go.Proofs.YtcffonnijhhhiaaGreatDoor
open Go Go.RowKit Go.Maps Mp
attribute [-simp] Prod.forall Prod.exists
attribute [-go_sem] loadVar storeVar Builtin.append_
attribute [local go_sem] lk_int lk_u8 lk_ints lk_state lk_ids
set_option maxRecDepth 100000 in
set_option maxHeartbeats 4000000 in
theorem needsOf_a (A:Option Addr)(c:Nat)(L:List Dp)(id:Int)(w:World)(hL:Dls w w.heap.size A L)(hm:L.length≤1000000)(hcL:L.length≤c):Calls Tryz.prog 51 #[.slice A L.length c,.int .i64 id] w fun e w'=> ∃A' c',e=.returned (.tuple #[.slice A' (Rt.needsR (dls L) id).length c',.int .i64 (Rt.needsE (dls L) id)])∧
  w'.ownsRow w.heap.size 3 1 (.slice A' (Rt.needsR (dls L) id).length c') (Rt.needsR (dls L) id).length ((Rt.needsR (dls L) id).flatMap encInt)∧Below w.heap.size w w':=by
 have hck:=check_a A c L w hL hm
 have HL:=Lib.hid hL
 clear hL
 obtain⟨E,hE⟩: ∃E,Rt.needsE (dls L) id=E:=⟨_,rfl⟩
 unfold Rt.needsR
 rw[hE]
 unfold Rt.needsE at hE
 by_cases h0:(Rt.check (dls L)).2=0
 case neg=>
  rw[if_pos h0]at hE
  rw[if_neg (by rw[←hE];exact h0)]
  have hq2:((Rt.check (dls L)).2 !=0)=true:=by simpa using h0
  generalize (Rt.check (dls L)).1=i at hck
  generalize (Rt.check (dls L)).2=E2 at hck hq2 hE
  subst hE
  clear h0
  go_enter Tryz.func51,Tryz.ntmps51
  go_wp2_with fail
  refine hck.mono ?_
  rintro e w' ⟨rfl,hb⟩
  go_wp2
  refine bodyPost_ret (v:=.tuple #[.slice none 0 0,.int .i64 E2]) (by simp[results,Tryz.results51,go_sem]) rfl ?_
  exact⟨none,0,rfl,World.ownsRow_nil _ _ _ _,hb⟩
 rw[h0]at hck
 simp only[h0,ne_eq,not_true_eq_false,if_false]at hE
 generalize (Rt.check (dls L)).1=i at hck
 have HE:=Lib.hid hE
 clear h0 hE
 obtain ⟨I, hI⟩ : ∃ I, (dls L).map (·.id) = I := ⟨_, rfl⟩
 have HLEN:=Lib.hid (show I.length=L.length by rw[←hI];simp)
 have HI:=Lib.hid hI
 clear hI
 go_enter Tryz.func51,Tryz.ntmps51
 go_wp2_with fail
 refine hck.mono ?_
 clear hck
 rintro e w1 ⟨rfl,b1⟩
 have z1:=b1.size
 have hi:=ids_a A c L w1 (HL.out.up b1) hm
 rw[HI.out]at hi
 go_wp2_with fail
 refine hi.mono ?_
 clear hi
 rintro e w2 ⟨A2,c2,rfl,ho2,b2⟩
 have bw2:Below w.heap.size w w2:=b1.trans (b2.mono z1)
 obtain⟨A2',c2',e2,hs2,_,_⟩:=own_seg layI ho2
 cases e2
 have hix:=indexI_a A2 c2 I id w2 hs2 (by rw[HLEN.out];exact hm)
 obtain⟨o,hO⟩: ∃o,Rt.idx (fun x=>x==id) I=o:=⟨_,rfl⟩
 rw[hO]at hix
 have HO:=Lib.hid hO
 have HE2:Hid ((if o.isNone=true then 5 else 0)=E):=Lib.hid (by rw[←HE.out,HI.out,hO])
 clear hs2 ho2 HE
 go_wp2_with fail
 refine hix.mono ?_
 clear hix hO
 rintro e w3 ⟨rfl,rfl⟩
 cases o with
 |none=>
  obtain rfl:E=5:=HE2.out.symm
  have hq:Rt.pos none= -1:=rfl
  rw[hq]
  go_wp2
  refine bodyPost_ret (v:=.tuple #[.slice none 0 0,.int .i64 5]) (by simp[results,Tryz.results51,go_sem]) rfl ?_
  exact⟨none,0,rfl,World.ownsRow_nil _ _ _ _,bw2⟩
 |some at_=>
  obtain rfl:E=0:=HE2.out.symm
  have hq:Rt.pos (some at_)=(at_:Int):=rfl
  rw[hq]
  have hat:=Rt.idx_lt HO.out
  rw[HLEN.out]at hat
  have hfin : Hid (Rt.needsL (dls L) id = (((dls L).take at_).filter fun x => ((Rt.partF (dls L) x.id).map (·.id)).contains id).map (·.id)) := Lib.hid (by unfold Rt.needsL; rw [HI.out, HO.out]; rfl)
  have z2:=bw2.size
  clear HE2 hq
  go_wp2
  go_loopw [9, 32] (fun v i wr => ∃ (j : Nat) (A' : Option Addr) (c' : Nat) (O : List Int), j ≤ at_ ∧ i = .int .i64 j ∧ v = .slice A' O.length c' ∧ Hid (O = (((dls L).take j).filter fun x => ((Rt.partF (dls L) x.id).map (·.id)).contains id).map (·.id)) ∧ Hid (wr.ownsRow w.heap.size 3 1 (.slice A' O.length c') O.length (O.flatMap encInt)) ∧ O.length ≤ j ∧ Below w.heap.size w wr) (fun _ i _ => at_ - (intOf i).toNat)
  case atStart=>exact⟨0,none,0,[],by omega,rfl,rfl,Lib.hid rfl,Lib.hid (World.ownsRow_nil _ _ _ _),Nat.le_refl _,bw2⟩
  case round=>
   obtain⟨j,A',c',O,hj,rfl,rfl,HOO,HW,hlo,hb⟩:=hrel
   by_cases hlt:j<at_
   ·have hltL:j<L.length:=by omega
    obtain⟨b,off,hA,hbb,hld,_⟩:=(HL.out.below hb).at_ hltL
    have etk:(dls L).take (j+1)=(dls L).take j++[L[j].x]:=by
     rw[List.take_succ_eq_append_getElem (by simpa using hltL)]
     simp
    obtain⟨p,hp⟩: ∃p,L[j]=p:=⟨_,rfl⟩
    rw[hp]at hld etk
    obtain⟨w4,st4,k4,g4⟩:=st_row (wr.alloc (.cells zcs 24)) wr.heap.size 24 24 zcs (xcs p.x p.A1 p.A2 p.c1 p.c2) (heap_alloc_new wr _) info_deal rfl (by simp[Value.oneCell'])
    have b4:Below wr.heap.size wr w4:=(Below.alloc (Below.refl _ wr) (Nat.le_refl _) _).grown g4 (by simp) (by intro k e;cases e;omega)
    obtain⟨hc4,hf4⟩:=blk_cells k4
    have hid4:=hc4 0
    have zr:=hb.size
    have z4:=b4.size
    have kz:=(Array.getElem?_eq_some_iff.1 k4).1
    have bw4:Below w.heap.size w w4:=hb.trans (b4.mono zr)
    have hfl:=falls_a A c L p.x.id w4 (HL.out.up bw4) hm
    have K4:=Lib.hid k4
    have HETK:=Lib.hid etk
    obtain ⟨F, hF⟩ : ∃ F, (Rt.partF (dls L) p.x.id).map (·.id) = F := ⟨_, rfl⟩
    obtain⟨EF,hEF⟩: ∃EF,Rt.partE (dls L) p.x.id=EF:=⟨_,rfl⟩
    rw[hF,hEF]at hfl
    have HF:=Lib.hid hF
    subst hA
    clear hc4 hf4 k4 g4 hp hF hEF etk
    go_wp2_with fail
    refine hfl.mono ?_
    clear hfl
    rintro e w5 ⟨A5,c5,rfl,ho5,b5⟩
    have bw5:Below w.heap.size w w5:=bw4.trans (b5.mono (by omega))
    obtain⟨A5',c5',e5,hs5,_,_⟩:=own_seg layI ho5
    cases e5
    have hlF:F.length≤1000000:=by
     rw[←HF.out,List.length_map]
     exact Nat.le_trans (Rt.partF_len _ _) (by simpa using hm)
    have hcn:=hasI_a A5 c5 F id w5 hs5 hlF
    have k5:=(b5.block _ kz).trans K4.out
    obtain⟨hc5,hf5⟩:=blk_cells k5
    have hid5:=hc5 0
    clear hs5 ho5 hc5 hf5 k5
    go_wp2_with fail
    refine hcn.mono ?_
    clear hcn
    rintro e w6 ⟨rfl,rfl⟩
    have o5:=own_below (own_below HW.out b4) b5
    cases hq:F.contains id with
    |true=>
     have HQ:=Lib.hid hq
     clear hq
     obtain⟨g',c6,w7,hrun,ho7,hb7,_⟩:=own_push layI o5 p.x.id #[.int .i64 p.x.id] rfl (by omega) (by decide) (by have:=b5.size;omega)
     have el:(O++[p.x.id]).length=O.length+1:=by simp
     rw[el]at hrun
     have HN : Hid (O ++ [p.x.id] = (((dls L).take (j + 1)).filter fun x => ((Rt.partF (dls L) x.id).map (·.id)).contains id).map (·.id)) := Lib.hid (by
      rw[HETK.out,List.filter_append,List.map_append,←HOO.out]
      have : ((Rt.partF (dls L) p.x.id).map (·.id)).contains id = true := by rw [HF.out]; exact HQ.out
      simp only[List.filter_cons,this,if_true,List.filter_nil,List.map_cons,List.map_nil])
     have HO7:=Lib.hid ho7
     have hb7':Below w.heap.size w w7:=bw5.trans hb7
     clear ho7 o5
     go_wp2
     go_roundw
     case rel=>exact⟨j+1,some ⟨g',0,none⟩,c6,O++[p.x.id],by omega,by go_num,by simp,HN,HO7,by simp;omega,hb7'⟩
     case measure=>first|(simp[intOf];done)|(simp[intOf];omega)
    |false=>
     have HQ:=Lib.hid hq
     clear hq
     have HN : Hid (O = (((dls L).take (j + 1)).filter fun x => ((Rt.partF (dls L) x.id).map (·.id)).contains id).map (·.id)) := Lib.hid (by
      rw[HETK.out,List.filter_append,List.map_append,←HOO.out]
      have : ((Rt.partF (dls L) p.x.id).map (·.id)).contains id = false := by rw [HF.out]; exact HQ.out
      simp only[List.filter_cons,this,Bool.false_eq_true,if_false,List.filter_nil,List.map_nil,List.append_nil])
     have HO7:=Lib.hid o5
     clear o5
     go_wp2
     go_roundw
     case rel=>exact⟨j+1,A',c',O,by omega,by go_num,rfl,HN,HO7,by omega,bw5⟩
     case measure=>first|(simp[intOf];done)|(simp[intOf];omega)
   ·obtain rfl:j=at_:=by omega
    have hR:O=Rt.needsL (dls L) id:=HOO.out.trans hfin.out.symm
    have HR:=Lib.hid hR
    clear hR
    go_wp2
    refine bodyPost_ret (v:=.tuple #[.slice A' O.length c',.int .i64 0]) (by simp[results,Tryz.results51,go_sem]) rfl ?_
    rw[←HR.out]
    exact⟨A',c',rfl,HW.out,hb⟩
end Go.Proofs.YtcffonnijhhhiaaGreatDoor
namespace Go.Proofs.YtcffonnijhhhiaaGreatDoor
open Go Go.RowKit Go.Maps Mp Go.Shelf
theorem compactS_a {n₀:Nat}(A:Option Addr)(c:Nat)(l:List Int)(w:World)(ho:w.ownsRow n₀ 3 1 (.slice A l.length c) l.length (l.flatMap encInt))(hm:l.length≤3000000000000):
  Calls Tryz.prog 136 #[.slice A l.length c] w fun e w' => e = .returned (.slice A (Lib.compact l).length c) ∧ Seg encInt 1 w' w'.heap.size A (Lib.compact l) ∧ w.grownBy w' (A.map (·.block)) ∧ ∀ a, A = some a → n₀ ≤ a.block ∧ ∃ cs, w'.heap[a.block]? = some (.cells cs 3 (0, 0)) := by
 rcases ho.2 with ⟨h2,h3⟩|⟨g,cap,cur,h2,hb,hg,hle,hmx,hcs,htk⟩
 ·cases l with
  |cons x l=>simp at h3
  |nil=>
   cases h2
   refine(Tryz.slices_Compact_int_empty none 0 w).mono ?_
   rintro e w' ⟨rfl,rfl⟩
   exact⟨rfl,.inl rfl,⟨rfl,rfl,rfl,Nat.le_refl _,fun _ _ _=>rfl⟩,fun a e=>(by cases e)⟩
 ·cases h2
  have hblk:g<w.heap.size:=(Array.getElem?_eq_some_iff.1 hg).1
  have hH:Sort.Holds (Value.int .i64) w g 0 l.toArray:=Go.holds_of_blockI hg (by
   rw[Nat.mul_one]at htk
   rw[htk,flat_int])
  refine(Tryz.slices_Compact_int g 0 c l w hH (by omega) hle).mono ?_
  rintro e w' ⟨rfl,q,rfl⟩
  have hlc:(Lib.compact l).length≤l.length:=by
   unfold Lib.compact Lib.compactUpTo
   rw[List.length_map]
   exact Nat.le_trans (List.length_filter_le _ _) (by simp)
  obtain⟨z,hz⟩: ∃z,Lib.compact l=z:=⟨_,rfl⟩
  rw[hz]at hlc ⊢
  obtain⟨ts,hts⟩: ∃ts,z++List.replicate (l.length-z.length) (0:Int)=ts:=⟨_,rfl⟩
  rw[hts]
  have hlen:ts.length=l.length:=by rw[←hts];simp;omega
  have hgr:Sort.grow (Sort.putRow (Value.int .i64) (Sort.ahead w q) g 0 ts.toArray) #[]=Sort.putRow (Value.int .i64) (Sort.ahead w q) g 0 ts.toArray:=by
   simp[Sort.grow]
   rfl
  have h1:=Go.ownsRow_sortedI (n:=q) (os:= #[]) (ss:=l) (ts:=ts) hlen hb hg hle hmx hcs
  have h2:=Go.grownBy_sortedI (w:=w) (g:=g) (n:=q) (os:= #[]) ts.toArray
  rw[hgr]at h1 h2
  rw[←flat_int,←hlen]at h1
  obtain⟨A',c',e',hs,_,_⟩:=own_seg layI h1
  cases e'
  have hzt:ts.take z.length=z:=by rw[←hts];simp
  have hs2:=Ints.take hs z.length
  rw[hzt]at hs2
  refine⟨rfl,hs2,h2,fun a e=> ?_⟩
  cases e
  exact⟨hb,own_cells h1 _ rfl⟩
end Go.Proofs.YtcffonnijhhhiaaGreatDoor
namespace Go.Proofs.Rt
def alike (r s:Roll)(n:Int):Bool:=sameR (partR r n) (partR s n)
end Go.Proofs.Rt
namespace Go.Proofs.YtcffonnijhhhiaaGreatDoor
open Go Go.RowKit Go.Maps Mp
attribute [-simp] Prod.forall Prod.exists
attribute [-go_sem] loadVar storeVar Builtin.append_
attribute [local go_sem] lk_int
set_option maxRecDepth 100000 in
set_option maxHeartbeats 4000000 in
theorem changed1_a (A1 A2 A3 B1 B2 B3:Option Addr)(c1 c2 c3 d1 d2 d3:Nat)(L M:List Lp)(r s:Rt.Roll)(n:Int)(b1 b2:Nat)(w:World)(hr:Rol w w.heap.size A1 A2 A3 L r)(hs:Rol w w.heap.size B1 B2 B3 M s)(fr:Rt.Few r)(fs:Rt.Few s)
  (k1:w.heap[b1]?=some (.cells (rowR r A1 A2 A3 c1 c2 c3) 50 (0,0))) (k2:w.heap[b2]?=some (.cells (rowR s B1 B2 B3 d1 d2 d3) 50 (0,0))):
  Calls Tryz.prog 137 (#[.int .i64 n]++ #[.pointer (some ⟨b1,0,none⟩),.pointer (some ⟨b2,0,none⟩)]) w fun e w'=>e=.returned (.bool (Rt.alike r s n))∧Below w.heap.size w w':=by
 have HS:Hid (∀V:World,Below w.heap.size w V→((loadVar 50 ⟨b1,0,none⟩).run Tryz.prog V=.ok (.agg (rowR r A1 A2 A3 c1 c2 c3)) V∧(loadVar 50 ⟨b2,0,none⟩).run Tryz.prog V=.ok (.agg (rowR s B1 B2 B3 d1 d2 d3)) V)):=Lib.hid fun V hV=>by
  have q1:=(hV.block _ (Array.getElem?_eq_some_iff.1 k1).1).trans k1
  have q2:=(hV.block _ (Array.getElem?_eq_some_iff.1 k2).1).trans k2
  exact⟨ld_row q1 Tryz.underlying50 rfl info_roll,ld_row q2 Tryz.underlying50 rfl info_roll⟩
 have HP1:=Lib.hid (fun(V:World) (hV:Below w.heap.size w V)=>part_a A1 A2 A3 c1 c2 c3 L r n V (hr.up hV) fr)
 have HP2:=Lib.hid (fun(V:World) (hV:Below w.heap.size w V)=>part_a B1 B2 B3 d1 d2 d3 M s n V (hs.up hV) fs)
 have F1:=Lib.hid (fr.part n)
 have F2:=Lib.hid (fs.part n)
 have b0:Below w.heap.size w w.drew:=below_drew (Below.refl _ _)
 obtain⟨r1,hr1⟩: ∃r1,Rt.partR r n=r1:=⟨_,rfl⟩
 obtain⟨s1,hs1⟩: ∃s1,Rt.partR s n=s1:=⟨_,rfl⟩
 obtain⟨v,hv⟩: ∃v,Rt.alike r s n=v:=⟨_,rfl⟩
 have HV:Hid (Rt.sameR r1 s1=v):=Lib.hid (by rw[←hr1,←hs1,←hv];rfl)
 rw[hv]
 rw[hr1]at HP1 F1
 rw[hs1]at HP2 F2
 unfold EndPa at HP1 HP2
 clear hr hs fr fs k1 k2 hr1 hs1 hv
 go_enter Tryz.func137,Tryz.ntmps137
 go_wp2
 refine wp_region_held_drew (S:=fun V=>(loadVar 50 ⟨b1,0,none⟩).run Tryz.prog V=.ok (.agg (rowR r A1 A2 A3 c1 c2 c3)) V∧(loadVar 50 ⟨b2,0,none⟩).run Tryz.prog V=.ok (.agg (rowR s B1 B2 B3 d1 d2 d3)) V) (by kernel_rfl) (HS.out _ b0) (fun hHeld=> ?_)
 refine takeH 0 (some 5) (v:= ?v1) rfl rfl (by kernel_rfl) (by kernel_rfl) (by kernel_rfl) (fun _ _ _ h=>h) (Or.inl ⟨by rfl,fun W hW=> ?hy1⟩) (by assumption) ?hr1
 case hy1=>obtain⟨hW1,hW2⟩:=hW;go_simp;try with_reducible rfl
 try simp only[Act.put,List.setIfInBounds_toArray,List.set_cons_zero,List.set_cons_succ]
 refine takeH 1 (some 6) (v:= ?v2) rfl rfl (by kernel_rfl) (by kernel_rfl) (by kernel_rfl) (fun _ _ _ h=>h) (Or.inl ⟨by rfl,fun W hW=> ?hy2⟩) (by assumption) ?hr2
 case hy2=>obtain⟨hW1,hW2⟩:=hW;go_simp;try with_reducible rfl
 try simp only[Act.put,List.setIfInBounds_toArray,List.set_cons_zero,List.set_cons_succ]
 refine takeH 3 (some 8) (v:= ?v3) rfl rfl (by kernel_rfl) (by kernel_rfl) (by kernel_rfl) (fun _ _ _ h=>h) (Or.inl ⟨by rfl,fun W hW=> ?hy3⟩) (by assumption) ?hr3
 case hy3=>obtain⟨hW1,hW2⟩:=hW;go_simp;try with_reducible rfl
 try simp only[Act.put,List.setIfInBounds_toArray,List.set_cons_zero,List.set_cons_succ]
 refine takeH 4 (some 9) (v:= ?v4) rfl rfl (by kernel_rfl) (by kernel_rfl) (by kernel_rfl) (fun _ _ _ h=>h) (Or.inl ⟨by rfl,fun W hW=> ?hy4⟩) (by assumption) ?hr4
 case hy4=>obtain⟨hW1,hW2⟩:=hW;go_simp;try with_reducible rfl
 try simp only[Act.put,List.setIfInBounds_toArray,List.set_cons_zero,List.set_cons_succ]
 refine wpAnyH_ready (rs:=[2]) (by kernel_rfl) (by simp) ?_
 refine readyH (some 7) rfl rfl (fun K hK=> ?_) AllReadyH.nil
 go_simp
 refine(HP1.out _ b0).mono ?_
 rintro e w1 ⟨X1,x1,X2,x2,X3,x3,L1,rfl,hR1,g1⟩
 have bb1:=b0.trans (g1.mono b0.size)
 refine hK _ _ (HS.out _ bb1) (fun hHeld=> ?_)
 clear hK K
 try simp only[Act.put,List.setIfInBounds_toArray,List.set_cons_zero,List.set_cons_succ]
 refine wpAnyH_ready (rs:=[5]) (by kernel_rfl) (by simp) ?_
 refine readyH (some 10) rfl rfl (fun K hK=> ?_) AllReadyH.nil
 go_simp
 refine(HP2.out _ bb1).mono ?_
 rintro e w2 ⟨Y1,y1,Y2,y2,Y3,y3,M1,rfl,hR2,g2⟩
 have bb2:=bb1.trans (g2.mono bb1.size)
 have hsm:=sameR_a X1 X2 X3 Y1 Y2 Y3 x1 x2 x3 y1 y2 y3 L1 M1 r1 s1 w2 (hR1.up g2) hR2 F1.out F2.out
 rw[HV.out]at hsm
 refine hK _ _ (HS.out _ bb2) (fun hHeld=> ?_)
 clear hK K
 try simp only[Act.put,List.setIfInBounds_toArray,List.set_cons_zero,List.set_cons_succ]
 refine wpAnyH_ready (rs:=[6]) (by kernel_rfl) (by simp) ?_
 refine readyH (some 11) rfl rfl (fun K hK=> ?_) AllReadyH.nil
 go_simp
 refine hsm.mono ?_
 clear hsm
 rintro e w3 ⟨rfl,g3⟩
 have bb3:=bb2.trans (g3.mono bb2.size)
 refine hK _ _ (HS.out _ bb3) (fun hHeld=> ?_)
 clear hK K
 try simp only[Act.put,List.setIfInBounds_toArray,List.set_cons_zero,List.set_cons_succ]
 refine wpAnyH_ready (rs:=[7]) (by kernel_rfl) (by simp) ?_
 refine readyH (some 4) rfl rfl (fun K hK=> ?_) AllReadyH.nil
 go_simp
 refine hK _ _ (HS.out _ bb3) (fun hHeld=> ?_)
 clear hK K
 try simp only[Act.put,List.setIfInBounds_toArray,List.set_cons_zero,List.set_cons_succ]
 refine wpAnyH_done (by kernel_rfl) ?_ _
 go_wp2
 go_ret
 exact⟨rfl,bb3⟩
end Go.Proofs.YtcffonnijhhhiaaGreatDoor
namespace Go.Proofs.YtcffonnijhhhiaaGreatDoor
open Go Go.RowKit Go.Maps Mp
attribute [-go_sem] loadVar storeVar
attribute [local go_sem] lk_int lk_u8 lk_ints lk_state lk_ids
theorem on1_a (p:Dp)(day:Int)(b:Nat)(w:World)(hb:w.heap[b]?=some (.cells #[.int .i64 day] 3 (0,0))):Calls Tryz.prog 121 (#[.agg (rowD p)]++ #[.pointer (some ⟨b,0,none⟩)]) w fun e w'=>e=.returned (.bool (decide (day<p.x.day)))∧Below w.heap.size w w':=by
 have hlt:=(Array.getElem?_eq_some_iff.1 hb).1
 have k1:=heap_alloc_new w (oDl p.x p.A1 p.A2 p.c1 p.c2)
 obtain⟨hc,hf⟩:=blk_cells ((Below.heap_alloc w (oDl p.x p.A1 p.A2 p.c1 p.c2) b hlt).trans hb)
 obtain⟨hc1,hf1⟩:=blk_cells k1
 go_enter Tryz.func121,Tryz.ntmps121
 go_wp2
 go_ret
 exact⟨rfl,by go_grown⟩
def EndOn (w:World)(l:List Dl)(day:Int)(e:Ending)(w':World):Prop:= ∃A' c' M,e=.returned (.slice A' M.length c')∧Dls w' w'.heap.size A' M∧dls M=Rt.onDay l day∧M.length≤c'∧From w.heap.size A'∧(∀p∈M,From w.heap.size p.A1∧From w.heap.size p.A2)∧Below w.heap.size w w'∧OwnD w' A' M
set_option maxRecDepth 100000 in
theorem on_a (A:Option Addr)(c:Nat)(L:List Dp)(day:Int)(w:World)(h:Dls w w.heap.size A L)(hm:L.length≤1000000):Calls Tryz.prog 49 #[.slice A L.length c,.int .i64 day] w (EndOn w (dls L) day):=by
 have b1:Below w.heap.size w (w.alloc (.cells #[.int .i64 day] 3)):=by go_grown
 have k1:=heap_alloc_new w (.cells #[.int .i64 day] 3)
 have hcp:=copied_a A c L _ (h.up b1) hm
 clear h
 go_enter Tryz.func49,Tryz.ntmps49
 go_wp2_with fail
 refine hcp.mono ?_
 clear hcp
 rintro e w2 ⟨A',c',M,rfl,hD,hM,hl,hc',hf,he,b2,ho⟩
 have k2:=(b2.block _ (by simp)).trans k1
 have hd:=delF_D A' c' M 121 #[.pointer (some ⟨w.heap.size,0,none⟩)] (fun p=>decide (day<p.x.day)) w2 hD.seg (by omega) (by omega) ho.1 (fun args w=>by simp[go_sem]) (fun p hp W hW=>on1_a p day w.heap.size W ((hW.block _ (Array.getElem?_eq_some_iff.1 k2).1 (by
  cases A' with
  |none=>simp
  |some a=>have:=hf a rfl;simp at this ⊢;omega)).trans k2))
 rw[hl]at hd
 have HD:=Lib.hid hD
 have HO:=Lib.hid ho
 have HE:=Lib.hid he
 have HF:=Lib.hid hf
 clear hD ho he hf
 go_wp2_with fail
 refine hd.mono ?_
 clear hd
 rintro e w3 ⟨rfl,hs,hg,hk⟩
 go_wp2
 go_ret
 have b3:Below (w.heap.size+1) w2 w3:=⟨hg.os,hg.tape,hg.output,hg.size,fun k hk=>hg.block k (by have:=b2.size;simp at this;omega) (by
  cases A' with
  |none=>simp
  |some a=>have:=HF.out a rfl;simp at this ⊢;omega)⟩
 have hsub: ∀q∈M.filter (fun p=> !decide (day<p.x.day)),q∈M:=fun q hq=>(List.mem_filter.1 hq).1
 have hfar: ∀ {A1:Option Addr} {l1:List Int},Ints w2 w2.heap.size A1 l1→(∀a',A'=some a'→Far a'.block A1 l1)→Ints w3 w3.heap.size A1 l1:=fun {A1 l1} hi hf=>by
  rcases hi with hi|⟨b,o,hA,hb,hc⟩
  ·exact .inl hi
  ·refine .inr ⟨b,o,hA,Nat.lt_of_lt_of_le hb hg.size,fun k x hx j v hv=>(World.cell?_of_block (hg.block b hb ?_)).trans (hc k x hx j v hv)⟩
   cases A' with
   |none=>simp
   |some a=>
    rcases hf a rfl with hf|hf
    ·subst hf;cases hx
    ·have:=hf _ hA
     simpa using this
 refine⟨A',c',M.filter (fun p=> !decide (day<p.x.day)),rfl,⟨hs,fun q hq=> ?_⟩,?_,Nat.le_trans (List.length_filter_le _ _) (by omega),fun a ha=> ?_,fun q hq=> ?_,b1.trans ((b2.mono (by simp)).trans (b3.mono (by omega))),hk,fun q hq=>HO.out.2 q (hsub q hq)⟩
 ·obtain⟨d,e1,e2⟩:=HD.out.each q (hsub q hq)
  obtain f:=HO.out.2 q (hsub q hq)
  exact⟨⟨hfar d.into fun a ha=>(f a ha).1,hfar d.sizes fun a ha=>(f a ha).2,d.li,d.ls⟩,e1,e2⟩
 ·rw[←hM]
  show(M.filter _).map _=(M.map _).filter _
  rw[List.filter_map]
  congr 1
  refine List.filter_congr fun q _=> ?_
  simp[←Int.not_lt]
 ·have:=HF.out a ha
  simp at this
  omega
 ·obtain⟨h1,h2⟩:=HE.out q (hsub q hq)
  exact⟨fun a ha=>by have:=h1 a ha;simp at this;omega,fun a ha=>by have:=h2 a ha;simp at this;omega⟩
end Go.Proofs.YtcffonnijhhhiaaGreatDoor
namespace Go.Proofs.YtcffonnijhhhiaaGreatDoor
open Go Go.RowKit Go.Maps Mp
attribute [-go_sem] loadVar storeVar
attribute [local go_sem] lk_int lk_u8 lk_ints lk_state lk_ids
abbrev stDay (l:List Dl)(day:Int):Rt.St:=Rt.stOf (Rt.onDay l day)
def EndOd (w:World)(l:List Dl)(day:Int)(e:Ending)(w':World):Prop:=Below w.heap.size w w'∧
 if (Rt.check l).2=0 then ∃sb bu bl be bs ad,e=.returned (.tuple #[.pointer (some ⟨sb,0,none⟩),.int .i64 0])∧SM w' w.heap.size sb bu bl be bs ad (view (stDay l day))∧Rt.Inv (stDay l day)
 else e=.returned (.tuple #[.pointer none,.int .i64 (Rt.check l).2])
set_option maxRecDepth 100000 in
theorem onSt_a (A:Option Addr)(c:Nat)(L:List Dp)(day:Int)(w:World)(h:Dls w w.heap.size A L)(hm:L.length≤1000000):Calls Tryz.prog 117 #[.slice A L.length c,.int .i64 day] w (EndOd w (dls L) day):=by
 have hck:=check_a A c L w h hm
 have H:=Lib.hid h
 clear h
 unfold EndOd
 by_cases h0:(Rt.check (dls L)).2=0
 ·simp only[h0,if_true]at hck ⊢
  have HC:=Lib.hid h0
  obtain⟨i,hi⟩: ∃i,(Rt.check (dls L)).1=i:=⟨_,rfl⟩
  rw[hi]at hck
  clear h0 hi
  go_enter Tryz.func117,Tryz.ntmps117
  go_wp2_with fail
  refine hck.mono ?_
  clear hck
  rintro e w1 ⟨rfl,b1⟩
  have hon:=on_a A c L day w1 (H.out.up b1) hm
  go_wp2_with fail
  refine hon.mono ?_
  clear hon
  rintro e w2 ⟨A',c',M,rfl,hD,hM,hc',_,_,b2,_⟩
  have hlen:M.length≤1000000:=by
   have:=congrArg List.length hM
   rw[List.length_map]at this
   have h2:(Rt.onDay (dls L) day).length≤(dls L).length:=List.length_filter_le _ _
   rw[List.length_map]at h2
   omega
  have hw:=walked_a A' c' M w2 hD hlen
  rw[hM]at hw
  unfold EndW at hw
  simp only[Rt.on_right HC.out day,if_true]at hw
  clear hD hlen hM
  go_wp2_with fail
  refine hw.mono ?_
  clear hw
  rintro e w3 ⟨b3,sb,bu,bl,be,bs,ad,wb,bk,n,d,rfl,hk⟩
  obtain⟨hc,hf⟩:=blk_cells hk.blk
  have b13:=b1.trans ((b2.mono b1.size).trans (b3.mono (Nat.le_trans b1.size b2.size)))
  have hsm:=hk.sm
  have hin:=hk.inv
  clear hk
  go_wp2
  refine bodyPost_ret (v:=.tuple #[.pointer (some ⟨sb,0,none⟩),.int .i64 0]) (by simp[results,Tryz.results117,go_sem]) rfl ?_
  exact⟨b13,sb,bu,bl,be,bs,ad,rfl,hsm.less (Nat.le_trans b1.size b2.size),hin⟩
 ·simp only[h0,if_false]
  generalize (Rt.check (dls L)).1=i at hck
  have hq2:((Rt.check (dls L)).2 !=0)=true:=by simpa using h0
  generalize (Rt.check (dls L)).2=E2 at hck hq2
  clear h0
  go_enter Tryz.func117,Tryz.ntmps117
  go_wp2_with fail
  refine hck.mono ?_
  rintro e w' ⟨rfl,hb⟩
  go_wp2
  refine bodyPost_ret (v:=.tuple #[.pointer none,.int .i64 E2]) (by simp[results,Tryz.results117,go_sem]) rfl ?_
  exact⟨hb,rfl⟩
end Go.Proofs.YtcffonnijhhhiaaGreatDoor
namespace Go.Proofs.YtcffonnijhhhiaaGreatDoor
open Go Go.RowKit Go.Maps Mp
attribute [-simp] Prod.forall Prod.exists
attribute [-go_sem] loadVar storeVar Builtin.append_
attribute [local go_sem] lk_int lk_lots lk_parts lk_holds lk_mE lk_mS lk_sL lk_sE lk_sS fld0 fld1
def onR (l:List Dl)(day:Int):Rt.Roll:=if (Rt.check l).2=0 then (stDay l day).roll else ⟨[],[],[]⟩
def partsR (r:Rt.Roll)(n o:Int):Int:=Rt.heldBy (Rt.heldOf r.lots n) o
def grazesR (r : Rt.Roll) (n o : Int) : Int := ((Rt.stintOf r.stints n o).map (·.beasts)).getD 0
def mayR (r:Rt.Roll)(n over:Int):Bool:=(Rt.easeOf r.eases over n).isSome||(n==over&&(Rt.lotOf r.lots n).isSome)
set_option maxRecDepth 100000 in
set_option maxHeartbeats 2000000 in
theorem parts_a (A:Option Addr)(c:Nat)(L:List Dp)(day n o:Int)(w:World)(h:Dls w w.heap.size A L)(hm:L.length≤1000000)(hn:i64 n)(ho:i64 o):Calls Tryz.prog 48 #[.slice A L.length c,.int .i64 day,.int .i64 n,.int .i64 o] w fun e w'=>e=.returned (.int .i64 (partsR (onR (dls L) day) n o))∧Below w.heap.size w w':=by
 have ho:=onSt_a A c L day w h hm
 unfold EndOd at ho
 by_cases h0:(Rt.check (dls L)).2=0
 case neg=>
  simp only[h0,if_false]at ho
  have hr:onR (dls L) day=⟨[],[],[]⟩:=if_neg h0
  rw[hr]
  have hq2:((Rt.check (dls L)).2 !=0)=true:=by simpa using h0
  have hq3:((Rt.check (dls L)).2==0)=false:=by simpa using h0
  generalize (Rt.check (dls L)).2=E2 at ho hq2 hq3
  clear h0 hr h
  go_enter Tryz.func48,Tryz.ntmps48
  go_wp2_with fail
  refine ho.mono ?_
  rintro e w' ⟨hb,rfl⟩
  go_wp2
  go_ret
  exact⟨rfl,hb⟩
 simp only[h0,if_true]at ho
 have hr:onR (dls L) day=(stDay (dls L) day).roll:=if_pos h0
 rw[hr]
 generalize stDay (dls L) day=s at ho ⊢
 clear h h0 hr
 go_enter Tryz.func48,Tryz.ntmps48
 go_wp2_with fail
 refine ho.mono ?_
 clear ho
 rintro e w1 ⟨b1,sb,bu,bl,be,bs,ad,rfl,hS,hin⟩
 have hz:=hS.lt
 obtain⟨hc,hf⟩:=blk_cells hS.blk
 have hl:=hS.lLot hn
 cases hx:Rt.lotOf s.roll.lots n with
 |none=>
  have hp:ad n=none:=by
   cases hp:ad n with
   |none=>rfl
   |some p=>have:=(ad_iff hS n).1 (by rw[hp];rfl);obtain⟨x,hxm,e⟩:=List.mem_map.1 this;exact absurd e (Rt.lotOf_none.1 hx x hxm)
  rw[hp]at hl
  have hv:Hid (partsR s.roll n o=0):=Lib.hid (by unfold partsR Rt.heldOf;rw[hx];rfl)
  clear hx hp
  go_wp2
  go_ret
  exact⟨by rw[hv.out];rfl,b1⟩
 |some x=>
  obtain⟨hok,p,hp,hp1,hp2,hpb,hpf⟩:=hS.plot hx
  rw[hp]at hl
  simp only[Option.map_some]at hl
  obtain⟨hcp,hfp⟩:=blk_cells hpb
  have hlk:=(hpf.lookup kI Tryz.underlying134 (zero_int w1) (keyI ho.1 ho.2)).1
  have hv:Hid (partsR s.roll n o=(partOf x.held o).getD 0):=Lib.hid (by unfold partsR Rt.heldOf;rw[hx];rfl)
  have e1:(fI (partOf x.held) o).getD (.int .i64 0)=.int .i64 ((partOf x.held o).getD 0):=by unfold fI;cases partOf x.held o<;>rfl
  rw[e1]at hlk
  clear hx hp e1
  go_wp2
  go_ret
  exact⟨by rw[hv.out];rfl,b1⟩
end Go.Proofs.YtcffonnijhhhiaaGreatDoor
namespace Go.Proofs.YtcffonnijhhhiaaGreatDoor
open Go Go.RowKit Go.Maps Mp
attribute [-simp] Prod.forall Prod.exists
attribute [-go_sem] loadVar storeVar Builtin.append_
attribute [local go_sem] lk_int lk_lots lk_parts lk_holds lk_mE lk_mS lk_sL lk_sE lk_sS fld0 fld1
def lotX (l:List Dl)(day n:Int):Rt.Lot:=(Rt.lotOf (onR l day).lots n).getD ⟨0,0,[]⟩
def lotE (l:List Dl)(day n:Int):Int:=if (Rt.check l).2≠0 then (Rt.check l).2 else if (Rt.lotOf (onR l day).lots n).isSome then 0 else 5
def EndL (w:World)(x:Rt.Lot)(E:Int)(e:Ending)(w':World):Prop:= ∃A' c',e=.returned (.tuple #[.agg #[.int .i64 x.number,.int .i64 x.size,.slice A' x.held.length c'],.int .i64 E])∧Seg encH 2 w' w'.heap.size A' x.held∧x.held.length≤c'∧From w.heap.size A'∧Below w.heap.size w w'
def EndRl (w:World)(r:Rt.Roll)(E:Int)(e:Ending)(w':World):Prop:= ∃A1 c1 A2 c2 A3 c3 L,e=.returned (.tuple #[.agg #[.slice A1 r.lots.length c1,.slice A2 r.eases.length c2,.slice A3 r.stints.length c3],.int .i64 E])∧Rol w' w'.heap.size A1 A2 A3 L r∧r.lots.length≤c1∧r.eases.length≤c2∧r.stints.length≤c3∧
 From w.heap.size A1∧From w.heap.size A2∧From w.heap.size A3∧(∀p∈L,From w.heap.size p.A)∧OwnR w' A1 A2 L∧Below w.heap.size w w'
end Go.Proofs.YtcffonnijhhhiaaGreatDoor
namespace Go.Proofs.YtcffonnijhhhiaaGreatDoor
open Go Go.RowKit Go.Maps Mp
attribute [-simp] Prod.forall Prod.exists
attribute [-go_sem] loadVar storeVar Builtin.append_
attribute [local go_sem] lk_int lk_lots lk_parts lk_holds lk_mE lk_mS lk_sL lk_sE lk_sS fld0 fld1
theorem few_SM {w:World}{B sb bu bl be bs:Nat}{ad:Int→Option (Nat×Nat)}{s:Rt.St}(h:SM w B sb bu bl be bs ad (view s))(hin:Rt.Inv s):Rt.Few s.roll:=by
 refine⟨?_,?_,?_,?_⟩
 ·have := len_okI (l := s.roll.lots.map (·.number)) (List.nodup_iff_pairwise_ne.2 ((asc_lt hin.lots).imp (fun h e => by omega))) (fun k hk => fm_ok h.lots kI.inj (by
   show((ad k).map _).isSome=true
   rw[Option.isSome_map]
   exact(ad_iff h k).2 hk))
  simp at this
  omega
 ·have:=len_okP (l:=s.roll.eases.map Rt.Ease.key) (List.nodup_iff_pairwise_ne.2 ((asc2_lt hin.eases).imp (fun h e=>by subst e;unfold Rt.before at h;omega))) (fun k hk=>fm_ok h.eases kP.inj (by
   show(((view s).eases k).map _).isSome=true
   rw[Option.isSome_map]
   exact(findK_iff _ _ _ _).2 hk))
  simp at this
  omega
 ·have:=len_okP (l:=s.roll.stints.map Rt.Stint.key) (List.nodup_iff_pairwise_ne.2 ((asc2_lt hin.stints).imp (fun h e=>by subst e;unfold Rt.before at h;omega))) (fun k hk=>fm_ok h.stints kP.inj (by
   show(((view s).stints k).map _).isSome=true
   rw[Option.isSome_map]
   exact(findK_iff _ _ _ _).2 hk))
  simp at this
  omega
 ·intro p hp
  have hl:=Rt.lotOf_mem hin.lots hp
  obtain⟨q,hq⟩:=Option.isSome_iff_exists.1 ((ad_iff h p.number).2 (List.mem_map.2 ⟨p,hp,rfl⟩))
  obtain⟨L,h1,_,_,_,h5⟩:=h.each _ q hq
  have hL:L=lotV p:=by
   unfold view at h1
   simp only[hl,Option.map_some,Option.some.injEq]at h1
   exact h1.symm
  subst hL
  have := len_okI (l := p.held.map (·.1)) (List.nodup_iff_pairwise_ne.2 ((asc_lt (hin.held p hp).1.asc).imp (fun h e => by omega))) (fun k hk => fm_ok h5 kI.inj (by
   show((partOf p.held k).map _).isSome=true
   rw[Option.isSome_map]
   exact(part_mem _ _).2 hk))
  simp at this
  omega
def EndRf (w:World)(r:Rt.Roll)(E:Int)(e:Ending)(w':World):Prop:= ∃A1 c1 A2 c2 A3 c3 L,e=.returned (.tuple #[.agg #[.slice A1 r.lots.length c1,.slice A2 r.eases.length c2,.slice A3 r.stints.length c3],.int .i64 E])∧Rol w' w'.heap.size A1 A2 A3 L r∧r.lots.length≤c1∧r.eases.length≤c2∧r.stints.length≤c3∧
 From w.heap.size A1∧From w.heap.size A2∧From w.heap.size A3∧(∀p∈L,From w.heap.size p.A)∧OwnR w' A1 A2 L∧Below w.heap.size w w'∧Rt.Few r
set_option maxRecDepth 100000 in
set_option maxHeartbeats 2000000 in
theorem rollF_a (A:Option Addr)(c:Nat)(L:List Dp)(day:Int)(w:World)(h:Dls w w.heap.size A L)(hm:L.length≤1000000):Calls Tryz.prog 44 #[.slice A L.length c,.int .i64 day] w (EndRf w (onR (dls L) day) (Rt.check (dls L)).2):=by
 have b0:Below w.heap.size w (w.alloc (.cells zcR 50)):=by go_grown
 have k0:=heap_alloc_new w (.cells zcR 50)
 have ho:=onSt_a A c L day _ (h.up b0) hm
 unfold EndOd at ho
 by_cases h0:(Rt.check (dls L)).2=0
 case neg=>
  simp only[h0,if_false]at ho
  have e2:onR (dls L) day=⟨[],[],[]⟩:=if_neg h0
  rw[e2]
  have hq2:((Rt.check (dls L)).2 !=0)=true:=by simpa using h0
  generalize (Rt.check (dls L)).2=E2 at ho hq2 ⊢
  clear h0 e2 h
  go_enter Tryz.func44,Tryz.ntmps44
  go_wp2_with fail
  refine ho.mono ?_
  clear ho
  rintro e w1 ⟨hb,rfl⟩
  have k1:=(hb.block _ (by simp)).trans k0
  obtain⟨W7,st7,k7,g7⟩:=st_row w1 w.heap.size 50 50 zcR zcR k1 info_roll rfl (by simp[Value.oneCell'])
  have l7:=ld_row k7 Tryz.underlying50 rfl info_roll
  have b7:Below w.heap.size w W7:=(b0.trans (hb.mono b0.size)).grown g7 (by have:=(hb.mono b0.size).size;have:=b0.size;omega) (fun k e=>by cases e;exact Nat.le_refl _)
  go_wp2
  refine bodyPost_ret (v:=.tuple #[.agg #[.slice none 0 0,.slice none 0 0,.slice none 0 0],.int .i64 E2]) (by simp[results,Tryz.results44,go_sem,l7]) rfl ?_
  exact⟨none,0,none,0,none,0,[],rfl,⟨⟨.inl rfl,fun p hp=>by cases hp⟩,rfl,.inl rfl,.inl rfl⟩,Nat.le_refl _,Nat.le_refl _,Nat.le_refl _,fun a ha=>(by cases ha),fun a ha=>(by cases ha),fun a ha=>(by cases ha),fun p hp=>(by cases hp),⟨fun a ha=>(by cases ha),fun p hp=>(by cases hp),fun a ha=>(by cases ha)⟩,b7,⟨by simp,by simp,by simp,fun p hp=>by cases hp⟩⟩
 simp only[h0,if_true]at ho
 have hr:onR (dls L) day=(stDay (dls L) day).roll:=if_pos h0
 rw[hr,h0]
 generalize stDay (dls L) day=s at ho ⊢
 clear h h0 hr
 go_enter Tryz.func44,Tryz.ntmps44
 go_wp2_with fail
 refine ho.mono ?_
 clear ho
 rintro e w1 ⟨b1',sb,bu,bl,be,bs,ad,rfl,hS,hin⟩
 have b1:Below w.heap.size w w1:=b0.trans (b1'.mono b0.size)
 have z1:w.heap.size<w1.heap.size:=by have:=b1'.size;simp at this;omega
 have k1:=(b1'.block _ (by simp)).trans k0
 have hrl:=roll_a hS hin
 have HFEW:=Lib.hid (few_SM hS hin)
 clear hS hin
 go_wp2_with fail
 refine hrl.mono ?_
 clear hrl
 rintro e w2 ⟨A1,c1,A2,c2,A3,c3,M,rfl,hR,hc1,hc2,hc3,hf1,hf2,hf3,hf4,hO,b2⟩
 have k2:=(b2.block _ z1).trans k1
 obtain⟨W7,st7,k7,g7⟩:=st_row w2 w.heap.size 50 50 zcR #[.slice A1 s.roll.lots.length c1,.slice A2 s.roll.eases.length c2,.slice A3 s.roll.stints.length c3] k2 info_roll rfl (by simp[Value.oneCell'])
 have l7:=ld_row k7 Tryz.underlying50 rfl info_roll
 have b7:Below w.heap.size w W7:=(b1.trans (b2.mono b1.size)).grown g7 (by have:=b2.size;omega) (fun k e=>by cases e;exact Nat.le_refl _)
 have gN:GrowN w2.heap.size w.heap.size w2 W7:=⟨g7.os,g7.tape,g7.output,g7.size,fun i hi hne=>g7.block i hi (by simpa using hne)⟩
 have HF:=Lib.hid (show EndRf w s.roll 0 (.returned (.tuple #[.agg #[.slice A1 s.roll.lots.length c1,.slice A2 s.roll.eases.length c2,.slice A3 s.roll.stints.length c3],.int .i64 0])) W7 from
  ⟨A1,c1,A2,c2,A3,c3,M,rfl,⟨⟨seg_growN hR.lots.seg hf1 z1 gN,fun p hp=>⟨seg_growN (hR.lots.each p hp).1 (hf4 p hp) z1 gN,(hR.lots.each p hp).2⟩⟩,hR.is,seg_growN hR.eases hf2 z1 gN,seg_growN hR.stints hf3 z1 gN⟩,hc1,hc2,hc3,
   fun a ha=>by have:=hf1 a ha;omega,fun a ha=>by have:=hf2 a ha;omega,fun a ha=>by have:=hf3 a ha;omega,fun p hp a ha=>by have:=hf4 p hp a ha;omega,
   ⟨fun a ha=>⟨cells_growN (fun a ha=>(hO.lots a ha).1) hf1 z1 gN a ha,(hO.lots a ha).2⟩,fun p hp=>cells_growN (hO.held p hp) (hf4 p hp) z1 gN,cells_growN hO.eases hf2 z1 gN⟩,b7,HFEW.out⟩)
 clear hR hO hf1 hf2 hf3 hf4 k0
 go_wp2
 refine bodyPost_ret (v:=.tuple #[.agg #[.slice A1 s.roll.lots.length c1,.slice A2 s.roll.eases.length c2,.slice A3 s.roll.stints.length c3],.int .i64 0]) (by simp[results,Tryz.results44,go_sem,l7]) rfl ?_
 exact HF.out
end Go.Proofs.YtcffonnijhhhiaaGreatDoor
