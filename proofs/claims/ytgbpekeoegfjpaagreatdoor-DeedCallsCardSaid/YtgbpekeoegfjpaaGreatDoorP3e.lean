/- Walks of the law DeedCalls in one text, part 5: QI to JE. -/
import Derived.Test.YtgbpekeoegfjpaaGreatDoorP3d
set_option maxRecDepth 100000
namespace Go.Proofs.YtgbpekeoegfjpaaGreatDoor
variable (A1 A2 A3 A4 : Option Addr) (c1 c2 c3 c4 : Nat) (f : Pl.Fld)
namespace Pl
variable (A1 A2 A3 A4 : Option Addr) (c1 c2 c3 c4 : Nat) (f : Pl.Fld)
theorem touches_take {l:List Bd}{k:Nat}{q:Int}(h:k<l.length):touches (l.take (k+1)) q=(touches (l.take k) q||(decide ((l[k].fr:Int)=q)||decide ((l[k].till:Int)=q))):=by
 unfold touches
 rw[List.take_succ_eq_append_getElem h,List.any_append]
 simp
theorem touches_yes {l:List Bd}{k:Nat}{q:Int}(h:k<l.length)(ht:touches (l.take k) q=true):touches (l.take (k+1)) q=true:=by rw[touches_take h,ht];rfl
theorem touches_no {l:List Bd}{k:Nat}{q:Int}(h:k<l.length)(ht:touches (l.take k) q=false):touches (l.take (k+1)) q=(decide ((l[k].fr:Int)=q)||decide ((l[k].till:Int)=q)):=by rw[touches_take h,ht];rfl
theorem touches_all (l:List Bd)(q:Int):touches (l.take l.length) q=touches l q:=by rw[List.take_length]
theorem concR_yes {n:Nat}{l:List Bd}(h:touches l ((n:Int)+1)=true):concR (n+1) l=concR n l++[(n:Int)+1]:=by rw[concR_succ,if_pos h]
theorem concR_no {n:Nat}{l:List Bd}(h:touches l ((n:Int)+1)=false):concR (n+1) l=concR n l:=by rw[concR_succ,if_neg (by rw[h];decide),List.append_nil]
end Pl
end Go.Proofs.YtgbpekeoegfjpaaGreatDoor
namespace Go.Proofs.YtgbpekeoegfjpaaGreatDoor
open Go.RowKit Go.Deep
variable (A1 A2 A3 A4 : Option Addr) (c1 c2 c3 c4 : Nat) (f : Pl.Fld)
attribute [-go_sem] run_equalIn_agg storeVar loadVar Builtin.append_
attribute [local go_sem] lv_int lv_bool lv_u8 lv_string lv_strings lv_stas lv_pars lv_vars
noncomputable def Pl.concV (f:Pl.Fld)(c:Pl.Cal):List Int:=if Pl.checkCallE f c=0 then Pl.concR (f.li.length*f.st.length) (Pl.boundsC f c 0)else []
theorem bounds0 {f:Pl.Fld}{c:Pl.Cal}:Pl.boundsE f c 0=Pl.checkCallE f c:=by
 unfold Pl.boundsE
 by_cases h:Pl.checkCallE f c=0
 ·rw[if_pos h,if_pos (by decide),h]
 ·rw[if_neg h]
set_option maxHeartbeats 8000000 in
theorem ConcernsB_ok (c:Pl.Cal) (w:World) (hf:FldS w w.heap.size A1 A2 A3 A4 f) (hm:Small f) (hc:Caps c1 c2 c3 c4 f) (h0:Pl.checkCallE f c=0):
  Calls Tryz.prog 65 #[.agg (fq A1 A2 A3 A4 c1 c2 c3 c4 f),.agg (kq c)] w (EndIs (Pl.concR (f.li.length*f.st.length) (Pl.boundsC f c 0)) 0 w):=by
 obtain⟨hok,ht⟩:=tab_of h0
 have hS:=hok.st12
 have hL1:=hok.li1
 have hL:=hok.li10
 have hFE:Pl.fieldE f=0:=by
  unfold Pl.checkCallE at h0
  split at h0
  ·assumption
  ·exact absurd h0 ‹_›
 obtain⟨N,hN⟩: ∃N,f.li.length*f.st.length=N:=⟨_,rfl⟩
 have hNb:N<=120:=by rw[<-hN];have:=Nat.mul_le_mul hL hS;omega
 have HP:Hid ((if Pl.fieldE f=0 then 1+((f.li.length:Nat):Int)*(f.st.length:Nat)else 0)=1+(N:Int)):=Lib.hid (by rw[if_pos hFE,<-hN];simp)
 have HE:Hid (Pl.boundsE f c 0=0):=Lib.hid (by rw[bounds0,h0])
 obtain⟨L,hLL⟩: ∃L,Pl.boundsC f c 0=L:=⟨_,rfl⟩
 have HL:Hid (Pl.boundsV f c 0=L):=Lib.hid (by unfold Pl.boundsV;rw[if_pos HE.out,hLL])
 have hlen:L.length<=1000:=by
  rw[<-hLL,Pl.boundsC_len]
  have:(Pl.spans f c).length<=100:=by
   obtain⟨_,⟨f0,f1⟩,h⟩:=ht
   unfold Pl.spans
   split<;>rename_i hk2<;>simp only[List.length_map,List.length_range,List.length_cons,List.length_nil]<;>rcases h with h|h|h|h|h<;>omega
  omega
 rw[hN,hLL]
 clear hN hLL hFE hok ht h0
 have kf:=(heap_alloc_new w (.cells (fq A1 A2 A3 A4 c1 c2 c3 c4 f) 28))
 have kc:=(heap_alloc_new (w.alloc (.cells (fq A1 A2 A3 A4 c1 c2 c3 c4 f) 28)) (.cells (kq c) 48))
 rw[World.size_alloc]at kc
 have kf:=(Below.heap_alloc _ (.cells (kq c) 48) _ (lO kf)).trans kf
 have l01:=ld_row kf Tryz.underlying28 rfl info_fld
 have l02:=ld_row kc Tryz.underlying48 rfl info_cal
 have hall:Below w.heap.size w ((w.alloc (.cells (fq A1 A2 A3 A4 c1 c2 c3 c4 f) 28)).alloc (.cells (kq c) 48)):=((Below.refl _ w).alloc (Nat.le_refl _) _).alloc (by simp) _
 go_enter Tryz.func65,Tryz.ntmps65
 go_wp2_with fail
 refine(BoundsB_h A1 A2 A3 A4 c1 c2 c3 c4 f c 0 L 0 _ HL HE (hf.up hall) hm hc).mono ?_
 rintro e w1 ⟨A,cp,rfl,hBd,hx⟩
 replace kf:=kE hx kf;replace kc:=kE hx kc;replace hall:Below w.heap.size w _:=hall.trans (hx.mono hall.size);(try clear l01 l02);have l01:=ld_row kf Tryz.underlying28 rfl info_fld;have l02:=ld_row kc Tryz.underlying48 rfl info_cal;(try clear hcf hff hcc hfc);obtain⟨hcf,hff⟩:=blk_cells kf;obtain⟨hcc,hfc⟩:=blk_cells kc;clear hx
 have hs1:w.heap.size+1<w1.heap.size:=(lO kc)
 go_wp2_with fail
 go_loopw [8,9] (fun o i wr=> ∃(p n:Nat),p<=N∧n<=p∧i=.int .i64 ((p:Int)+1)∧wr.ownsRow w1.heap.size 3 1 o n ((Pl.concR p L).flatMap encInt)∧Bds wr w1.heap.size A L∧wr.heap[w.heap.size]?=some (.cells (fq A1 A2 A3 A4 c1 c2 c3 c4 f) 28 (0,0))∧Below w.heap.size w wr∧w1.heap.size<=wr.heap.size) (fun _ i _=>200-(intOf i).toNat)
 case atStart=>exact⟨0,0,by omega,by omega,rfl,World.ownsRow_nil _ _ _ _,hBd,kf,hall,Nat.le_refl _⟩
 case round=>
  clear kf kc hcf hff hcc hfc hall l01 l02 hBd
  obtain⟨p,n,hp,hnp,rfl,hown,hBd,kf,hall,hs2⟩:=hrel
  have l0:=ld_row kf Tryz.underlying28 rfl info_fld
  by_cases hlt:p<N
  ·have e1:(p:Int)+1<1+(N:Int):=by omega
   go_wp2_with fail
   refine(PointsB_h A1 A2 A3 A4 c1 c2 c3 c4 f (1+(N:Int)) _ HP (hf.up hall) hm hc).mono ?_
   rintro e w2 ⟨rfl,hx⟩
   replace hown:=own_below hown hx
   replace hBd:=hBd.below (hx.mono hs2)
   have hs3:=hx.size
   replace kf:=kE hx kf;replace hall:Below w.heap.size w _:=hall.trans (hx.mono hall.size);(try clear l0);have l0:=ld_row kf Tryz.underlying28 rfl info_fld;(try clear hcf hff);obtain⟨hcf,hff⟩:=blk_cells kf;clear hx
   go_wp2_with fail
   obtain⟨q,hq⟩: ∃q,(p:Int)+1=q:=⟨_,rfl⟩
   have HQ:=Lib.hid hq
   have hr1:=Lib.hid (fun h:Pl.touches L q=true=>(by rw[<-hq]at h;exact Pl.concR_yes h:Pl.concR (p+1) L=Pl.concR p L++[(p:Int)+1]))
   have hr2:=Lib.hid (fun h:Pl.touches L q=false=>(by rw[<-hq]at h;exact Pl.concR_no h:Pl.concR (p+1) L=Pl.concR p L))
   go_loop [10,11] (fun b i=> ∃(k:Nat),k<=L.length∧i=.int .i64 k∧ ∃B:Bool,b=.bool B∧Hid (Pl.touches (L.take k) q=B)) (fun _ i=>L.length-(intOf i).toNat)
   case atStart=>exact⟨0,by omega,rfl,false,rfl,Lib.hid rfl⟩
   case round=>
    obtain⟨k,hk,rfl,B,rfl,hB⟩:=hrel
    by_cases hkl:k<L.length
    ·obtain⟨b,off,hA,hbB,q0,q1,q2,q3⟩:=Bds.at4 hBd hkl
     have hy:=Lib.hid (Pl.touches_yes (q:=q) hkl)
     have hn:=Lib.hid (Pl.touches_no (q:=q) hkl)
     obtain⟨⟨bf,bt,bm,br⟩,hbd⟩: ∃x,L[k]=x:=⟨_,rfl⟩
     rw[hbd]at q0 q1 q2 q3 hn
     simp only at q0 q1 q2 q3 hn
     clear hbd
     subst hA
     have x1:(0:Int)<=(k:Int):=by omega
     have x2:(k:Int)<(L.length:Int):=by omega
     rw[hq]
     cases B with
     |true=>
      have HT:=Lib.hid (hy.out hB.out)
      clear hy hn hB
      go_wp2_with fail
      go_round
      case rel=>exact⟨k+1,by omega,by go_num,true,rfl,HT⟩
      case measure=>simp[intOf];try omega
     | false=>
      by_cases y1:(bf:Int)=q
      ·have y1':((bf:Int)==q)=true:=by simpa using y1
       have HT:Hid (Pl.touches (L.take (k+1)) q=true):=Lib.hid (by rw[hn.out hB.out,decide_eq_true y1];rfl)
       clear hy hn hB y1
       go_wp2_with fail
       go_round
       case rel=>exact⟨k+1,by omega,by go_num,true,rfl,HT⟩
       case measure=>simp[intOf];try omega
      ·have y1':((bf:Int)==q)=false:=by simpa using y1
       by_cases y2:(bt:Int)=q
       ·have y2':((bt:Int)==q)=true:=by simpa using y2
        have HT:Hid (Pl.touches (L.take (k+1)) q=true):=Lib.hid (by rw[hn.out hB.out,decide_eq_true y2];simp)
        clear hy hn hB y1 y2
        go_wp2_with fail
        go_round
        case rel=>exact⟨k+1,by omega,by go_num,true,rfl,HT⟩
        case measure=>simp[intOf];try omega
       ·have y2':((bt:Int)==q)=false:=by simpa using y2
        have HT:Hid (Pl.touches (L.take (k+1)) q=false):=Lib.hid (by rw[hn.out hB.out,decide_eq_false y1,decide_eq_false y2];rfl)
        clear hy hn hB y1 y2
        go_wp2_with fail
        go_round
        case rel=>exact⟨k+1,by omega,by go_num,false,rfl,HT⟩
        case measure=>simp[intOf];try omega
    ·obtain rfl:k=L.length:=by omega
     have hB':Hid (Pl.touches L q=B):=Lib.hid (by rw[<-Pl.touches_all];exact hB.out)
     clear hB
     cases B with
     |true=>
      have HR:Hid (Pl.concR (p+1) L=Pl.concR p L++[q]):=Lib.hid (by rw[hr1.out hB'.out,HQ.out])
      clear hr1 hr2 hB'
      obtain⟨g',cap',w3,hrun,hown3,hb3⟩:=app_int q hown (by omega) (by omega)
      go_wp2_with fail
      go_roundw
      case rel=>have hq:=HQ.out;exact⟨p+1,n+1,by omega,by omega,by go_num,by rw[HR.out];exact hown3,hBd.keep (fun a ha=>hb3.cell ha),(hb3.block w.heap.size (by omega)).trans kf,hall.trans (hb3.mono (by omega)),by have:=hb3.size;omega⟩
      case measure=>simp[intOf];try omega
     |false=>
      have HR:=Lib.hid (hr2.out hB'.out)
      clear hr1 hr2 hB'
      go_wp2_with fail
      go_roundw
      case rel=>have hq:=HQ.out;exact⟨p+1,n,by omega,by omega,by go_num,by rw[HR.out];exact hown,hBd,kf,hall,by omega⟩
      case measure=>simp[intOf];try omega
  ·obtain rfl:p=N:=by omega
   have e1: ¬(p:Int)+1<1+(p:Int):=by omega
   go_wp2_with fail
   refine(PointsB_h A1 A2 A3 A4 c1 c2 c3 c4 f (1+(p:Int)) _ HP (hf.up hall) hm hc).mono ?_
   rintro e w2 ⟨rfl,hx⟩
   replace hown:=own_below hown hx
   replace kf:=kE hx kf;replace hall:Below w.heap.size w _:=hall.trans (hx.mono hall.size);(try clear l0);have l0:=ld_row kf Tryz.underlying28 rfl info_fld;(try clear hcf hff);obtain⟨hcf,hff⟩:=blk_cells kf;clear hx
   obtain rfl:=own_count lay_int hown
   obtain⟨A',c',hv,hN,hc',hF⟩:=own_seg lay_int hown
   subst hv
   go_wp2_with fail
   go_ret2
   exact⟨A',c',rfl,hN,hc',hall⟩
set_option maxHeartbeats 2000000 in
theorem ConcernsB_no (c:Pl.Cal)(E:Int)(w:World)(hf:FldS w w.heap.size A1 A2 A3 A4 f)(hm:Small f)(hc:Caps c1 c2 c3 c4 f)(HE:Hid (Pl.checkCallE f c=E))(h0:E≠0):
  Calls Tryz.prog 65 #[.agg (fq A1 A2 A3 A4 c1 c2 c3 c4 f),.agg (kq c)] w (EndIs [] E w):=by
 have q0:(E !=0)=true:=by simpa using h0
 have HB:Hid (Pl.boundsE f c 0=E):=Lib.hid (by rw[bounds0,HE.out])
 have HL:Hid (Pl.boundsV f c 0=[]):=Lib.hid (by unfold Pl.boundsV;rw[if_neg];rw[HB.out];exact h0)
 have kf:=(heap_alloc_new w (.cells (fq A1 A2 A3 A4 c1 c2 c3 c4 f) 28))
 have kc:=(heap_alloc_new (w.alloc (.cells (fq A1 A2 A3 A4 c1 c2 c3 c4 f) 28)) (.cells (kq c) 48))
 rw[World.size_alloc]at kc
 have kf:=(Below.heap_alloc _ (.cells (kq c) 48) _ (lO kf)).trans kf
 have l01:=ld_row kf Tryz.underlying28 rfl info_fld
 have l02:=ld_row kc Tryz.underlying48 rfl info_cal
 have hall:Below w.heap.size w ((w.alloc (.cells (fq A1 A2 A3 A4 c1 c2 c3 c4 f) 28)).alloc (.cells (kq c) 48)):=((Below.refl _ w).alloc (Nat.le_refl _) _).alloc (by simp) _
 go_enter Tryz.func65,Tryz.ntmps65
 go_wp2_with fail
 refine(BoundsB_h A1 A2 A3 A4 c1 c2 c3 c4 f c 0 [] E _ HL HB (hf.up hall) hm hc).mono ?_
 rintro e w1 ⟨A,cp,rfl,hBd,hx⟩
 replace kf:=kE hx kf;replace kc:=kE hx kc;replace hall:Below w.heap.size w _:=hall.trans (hx.mono hall.size);(try clear l01 l02);have l01:=ld_row kf Tryz.underlying28 rfl info_fld;have l02:=ld_row kc Tryz.underlying48 rfl info_cal;(try clear hcf hff hcc hfc);obtain⟨hcf,hff⟩:=blk_cells kf;obtain⟨hcc,hfc⟩:=blk_cells kc;clear hx
 go_wp2_with fail
 go_ret2
 exact⟨none,0,rfl,.inl rfl,Nat.le_refl _,hall⟩
theorem ConcernsB_h (c:Pl.Cal)(X:List Int)(E:Int)(w:World)(hX:Hid (Pl.concV f c=X))(hE:Hid (Pl.checkCallE f c=E))(hf:FldS w w.heap.size A1 A2 A3 A4 f)(hm:Small f)(hc:Caps c1 c2 c3 c4 f):
  Calls Tryz.prog 65 #[.agg (fq A1 A2 A3 A4 c1 c2 c3 c4 f),.agg (kq c)] w (EndIs X E w):=by
 rw[<-hX.out]
 unfold Pl.concV
 by_cases h0:Pl.checkCallE f c=0
 ·rw[if_pos h0,<-hE.out,h0]
  exact ConcernsB_ok A1 A2 A3 A4 c1 c2 c3 c4 f c w hf hm hc h0
 ·rw[if_neg h0]
  exact ConcernsB_no A1 A2 A3 A4 c1 c2 c3 c4 f c E w hf hm hc hE (by rw[<-hE.out];exact h0)
end Go.Proofs.YtgbpekeoegfjpaaGreatDoor
namespace Go.Proofs.YtgbpekeoegfjpaaGreatDoor
open Go.RowKit
variable (A1 A2 A3 A4 : Option Addr) (c1 c2 c3 c4 : Nat) (f : Pl.Fld)
theorem Back_h (c d:Pl.Cal)(E:Int)(w:World)(hD:Hid (Pl.backV f c=d))(hE:Hid (Pl.checkCallE f c=E))(hf:FldS w w.heap.size A1 A2 A3 A4 f)(hm:Small f)(hc:Caps c1 c2 c3 c4 f)(hk:c.kind<=255):
  Calls Tryz.prog 66 #[.agg (fq A1 A2 A3 A4 c1 c2 c3 c4 f),.agg (kq c)] w (EndBk d E w):=by
 rw[<-hD.out,<-hE.out]
 exact Back_a A1 A2 A3 A4 c1 c2 c3 c4 f c w hf hm hc hk
end Go.Proofs.YtgbpekeoegfjpaaGreatDoor
namespace Go.Proofs.YtgbpekeoegfjpaaGreatDoor
open Go.RowKit
variable (A1 A2 A3 A4 : Option Addr) (c1 c2 c3 c4 : Nat) (f : Pl.Fld)
theorem ReverseB_ok (c:Pl.Crs)(w:World)(h:c.ok=true):Calls Tryz.prog 137 #[.agg (cq c)] w fun e w'=>e=.returned (.tuple #[.agg (i6 ((c.b+180)%360) c.n c.l c.y c.x c.s),.int .i64 0])∧Below w.heap.size w w':=by
 obtain⟨⟨g0,g1⟩,_⟩:=c.ok_iff h
 have HE:=Lib.hid (ok_errB h);clear h
 go_enter Tryz.func137,Tryz.ntmps137
 go_wp2_with (first
  |(go_at_call 186;refine(course_b _ _ _ _ _ _ _).mono ?_;rintro e w1 ⟨rfl,hx⟩;rw[HE.out];have kb1:=(hx.block w.heap.size (by first|omega|(simp;done)|(simp;omega))).trans (heap_alloc2_old _ _ _);obtain⟨hc1,hf1⟩:=blk_cells kb1;have kb2:=(hx.block (w.heap.size+1) (by first|omega|(simp;done)|(simp;omega))).trans (heap_alloc2_new _ _ _);obtain⟨hc2,hf2⟩:=blk_cells kb2;have hb1:Below w.heap.size w w1:=Below.trans (by go_grown) (hx.mono (by go_size));have hsz1:=hb1.size;have hlt1:=(lO kb2);clear hx)
  |(go_at_call 164;refine(norm_b _ _).mono ?_;rintro e w' ⟨rfl,rfl⟩))
 have hlt2:w.heap.size<w1.heap.size:=by omega
 refine bodyPost_ret (v:=.tuple #[.agg (i6 ((c.b+180)%360) c.n c.l c.y c.x c.s),.int .i64 0]) (by simp[results,Tryz.results137,go_sem,hc2]) rfl ⟨rfl,by go_grown⟩
end Go.Proofs.YtgbpekeoegfjpaaGreatDoor
namespace Go.Proofs.YtgbpekeoegfjpaaGreatDoor
open Go.RowKit
variable (A1 A2 A3 A4 : Option Addr) (c1 c2 c3 c4 : Nat) (f : Pl.Fld)
attribute [-go_sem] run_equalIn_agg storeVar loadVar
attribute [local go_sem] lv_int lv_bool lv_u8 lv_string lv_vars sv_int
structure BkG (w:World)(g:Nat)(ca cs:Array Value)(W:World):Prop where
 kc:W.heap[w.heap.size+1]?=some (.cells ca 48 (0,0))
 kr:W.heap[w.heap.size+2]?=some (.cells z13 48 (0,0))
 kg:W.heap[g]?=some (.cells cs 48 (0,0))
 lt:w.heap.size+2<g
 all:Below w.heap.size w W
theorem BkG.set {w:World}{g:Nat}{ca cs:Array Value}{W:World}(h:BkG w g ca cs W)(o:Nat)(v:Value):BkG w g ca (cs.setIfInBounds o v) (W.setCell ⟨g,o,none⟩ v):=
 have hl:=h.lt
 ⟨(Below.heap_setCell _ _ _ _ (show w.heap.size+1≠g by omega)).trans h.kc,(Below.heap_setCell _ _ _ _ (show w.heap.size+2≠g by omega)).trans h.kr,heap_setCell_same _ _ _ _ _ _ h.kg,hl,h.all.setCell (p:=⟨g,o,none⟩) (show w.heap.size<=g by omega) _⟩
theorem BkG.upB {w:World}{g:Nat}{ca cs:Array Value}{W W':World}(h:BkG w g ca cs W)(hx:Below W.heap.size W W'):BkG w g ca cs W':=
 ⟨(hx.block _ (Array.getElem?_eq_some_iff.1 h.kc).1).trans h.kc,(hx.block _ (Array.getElem?_eq_some_iff.1 h.kr).1).trans h.kr,(hx.block _ (Array.getElem?_eq_some_iff.1 h.kg).1).trans h.kg,h.lt,h.all.trans (hx.mono h.all.size)⟩
theorem backB_out (k:Int)(c:Pl.Cal)(w w1:World)(kc:w1.heap[w.heap.size+1]?=some (.cells (kkq k c) 48 (0,0)))(kr:w1.heap[w.heap.size+2]?=some (.cells z13 48 (0,0)))(hall:Below w.heap.size w w1):
  ∃W2 X1 X2 W3,(storeVar 48 ⟨w1.heap.size,0,none⟩ (.agg (kkq k c))).run Tryz.prog (w1.alloc (.cells z13 48))=.ok () W2∧W2.setCell ⟨w1.heap.size,3,none⟩ (.int .i64 c.till)=X1∧X1.setCell ⟨w1.heap.size,4,none⟩ (.int .i64 c.fr)=X2∧X2.setCell ⟨w1.heap.size,5,none⟩ (.int .i64 (-c.size))=W3∧
   BkG w w1.heap.size (kkq k c) (kkq k c) W2∧BkG w w1.heap.size (kkq k c) (kA13 k c.lim c.oth c.till c.till c.size c.er c.crs.b c.crs.n c.crs.l c.crs.y c.crs.x c.crs.s) X1∧BkG w w1.heap.size (kkq k c) (kA13 k c.lim c.oth c.till c.fr c.size c.er c.crs.b c.crs.n c.crs.l c.crs.y c.crs.x c.crs.s) X2∧BkG w w1.heap.size (kkq k c) (kA13 k c.lim c.oth c.till c.fr (-c.size) c.er c.crs.b c.crs.n c.crs.l c.crs.y c.crs.x c.crs.s) W3:=by
 have hlt:=(lO kr)
 have kg:=heap_alloc_new w1 (.cells z13 48)
 obtain⟨W2,st,kg2,hg2⟩:=st_row (w1.alloc (.cells z13 48)) w1.heap.size 48 48 z13 (kkq k c) kg info_cal rfl (by simp[Value.oneCell'])
 have h2:BkG w w1.heap.size (kkq k c) (kkq k c) W2:=by
  have hs:=hall.size
  refine⟨?_,?_,kg2,hlt,?_⟩
  ·exact(hg2.block _ (by simp;omega) (by simp;omega)).trans ((Below.heap_alloc _ _ _ (by omega)).trans kc)
  ·exact(hg2.block _ (by simp;omega) (by simp;omega)).trans ((Below.heap_alloc _ _ _ hlt).trans kr)
  ·exact(hall.alloc hs _).grown hg2 (by simp;omega) (fun j e=>by cases e;omega)
 exact⟨W2,_,_,_,st,rfl,rfl,rfl,h2,h2.set 3 _,(h2.set 3 _).set 4 _,((h2.set 3 _).set 4 _).set 5 _⟩
theorem backB_res {w:World}{g:Nat}{ca cs:Array Value}{W:World}(h:BkG w g ca cs W)(hs:cs.size=13)(h1:cs.all (·.oneCell')=true):
  ∃W4,(loadVar 48 ⟨g,0,none⟩).run Tryz.prog W=.ok (.agg cs) W∧(storeVar 48 ⟨w.heap.size+2,0,none⟩ (.agg cs)).run Tryz.prog W=.ok () W4∧(loadVar 48 ⟨w.heap.size+2,0,none⟩).run Tryz.prog W4=.ok (.agg cs) W4∧Below w.heap.size w W4:=by
 have hi:(Tryz.prog.info? 48).map (·.size)=some cs.size:=by rw[hs];exact info_cal
 obtain⟨W4,st,k4,hg4⟩:=st_row W (w.heap.size+2) 48 48 z13 cs h.kr hi (by rw[hs];rfl) h1
 exact⟨W4,ld_row h.kg Tryz.underlying48 rfl hi,st,ld_row k4 Tryz.underlying48 rfl hi,h.all.grown hg4 h.all.size (fun j e=>by cases e;omega)⟩
theorem backB_crs (c:Pl.Cal)(w w6:World)(g:Nat)(h:BkG w g (kkq 3 c) (kA13 3 c.lim c.oth c.till c.fr (-c.size) c.er c.crs.b c.crs.n c.crs.l c.crs.y c.crs.x c.crs.s) w6):
  ∃W7,(((((w6.setCell ⟨g,7,none⟩ (.int .i64 ((c.crs.b+180)%360))).setCell ⟨g,8,none⟩ (.int .i64 c.crs.n)).setCell ⟨g,9,none⟩ (.int .i64 c.crs.l)).setCell ⟨g,10,none⟩ (.int .i64 c.crs.y)).setCell ⟨g,11,none⟩ (.int .i64 c.crs.x)).setCell ⟨g,12,none⟩ (.int .i64 c.crs.s)=W7∧BkG w g (kkq 3 c) (kA13 3 c.lim c.oth c.till c.fr (-c.size) c.er ((c.crs.b+180)%360) c.crs.n c.crs.l c.crs.y c.crs.x c.crs.s) W7:=
 ⟨_,rfl,(((((h.set 7 _).set 8 _).set 9 _).set 10 _).set 11 _).set 12 _⟩
set_option maxHeartbeats 2000000 in
theorem BackB_no (c:Pl.Cal)(E:Int)(w:World)(hf:FldS w w.heap.size A1 A2 A3 A4 f)(hm:Small f)(hc:Caps c1 c2 c3 c4 f)(HC:Hid (Pl.checkCallE f c=E))(h0:E≠0):
  Calls Tryz.prog 67 #[.agg (fq A1 A2 A3 A4 c1 c2 c3 c4 f),.agg (kq c)] w (EndBk (Pl.backV f c) (Pl.checkCallE f c) w):=by
 have hv:Hid (Pl.backV f c=⟨0,0,0,0,0,0,0,Pl.Crs.zero⟩):=Lib.hid (by unfold Pl.backV;rw[HC.out,if_neg h0])
 have q0:(E !=0)=true:=by simpa using h0
 obtain⟨W0,hW0,kf,kc,kr,hall⟩:=back_w A1 A2 A3 A4 c1 c2 c3 c4 f c w
 have l01:=ld_row kf Tryz.underlying28 rfl info_fld
 have l02:=ld_row kc Tryz.underlying48 rfl info_cal
 go_enter Tryz.func67,Tryz.ntmps67
 go_wp2_with fail
 refine(checkCallB_h A1 A2 A3 A4 c1 c2 c3 c4 f c E _ HC (hf.up hall) hm hc).mono ?_
 rintro e w1 ⟨rfl,hx⟩
 clear l01 l02
 have kr:=kE hx kr
 have hall:Below w.heap.size w w1:=hall.trans (hx.mono hall.size)
 clear hx
 obtain⟨W2,st2,kr2,hg2⟩:=st_row w1 (w.heap.size+2) _ 48 _ z13 kr info_cal rfl (by simp[Value.oneCell'])
 have l2:=ld_row kr2 Tryz.underlying48 rfl info_cal
 have hB2:Below w.heap.size w W2:=hall.grown hg2 hall.size (fun k e=>by cases e;omega)
 go_wp2_with fail
 refine bodyPost_ret (v:=.tuple #[.agg z13,.int .i64 E]) (by simp[results,Tryz.results67,go_sem,l2]) rfl ?_
 rw[hv.out,HC.out]
 exact⟨rfl,hB2⟩
set_option maxHeartbeats 2000000 in
theorem BackB_same (c:Pl.Cal)(w:World)(hf:FldS w w.heap.size A1 A2 A3 A4 f)(hm:Small f)(hc:Caps c1 c2 c3 c4 f)(HC:Hid (Pl.checkCallE f c=0))(h3:c.kind≠3)(h5:c.kind≠5):
  Calls Tryz.prog 67 #[.agg (fq A1 A2 A3 A4 c1 c2 c3 c4 f),.agg (kq c)] w (EndBk (Pl.backV f c) (Pl.checkCallE f c) w):=by
 have hv:Hid (Pl.backV f c=c):=Lib.hid (by unfold Pl.backV Pl.Cal.back;rw[if_pos HC.out,if_neg h5,if_neg h3])
 have h3':((c.kind:Int) !=3)=true:=by rw[bne_iff_ne];omega
 have h5':((c.kind:Int) !=5)=true:=by rw[bne_iff_ne];omega
 clear h3 h5
 obtain⟨W0,hW0,kf,kc,kr,hall⟩:=back_w A1 A2 A3 A4 c1 c2 c3 c4 f c w
 have l01:=ld_row kf Tryz.underlying28 rfl info_fld
 have l02:=ld_row kc Tryz.underlying48 rfl info_cal
 go_enter Tryz.func67,Tryz.ntmps67
 go_wp2_with fail
 refine(checkCallB_h A1 A2 A3 A4 c1 c2 c3 c4 f c 0 _ HC (hf.up hall) hm hc).mono ?_
 rintro e w1 ⟨rfl,hx⟩
 clear l01 l02
 have kc:=kE hx kc
 have kr:=kE hx kr
 have hall:Below w.heap.size w w1:=hall.trans (hx.mono hall.size)
 clear hx
 have l1:=ld_row kc Tryz.underlying48 rfl info_cal
 obtain⟨hcc,hfc⟩:=blk_cells kc
 obtain⟨W2,st2,kr2,hg2⟩:=st_row w1 (w.heap.size+2) _ 48 _ (kq c) kr info_cal rfl (by simp[Value.oneCell'])
 have l2:=ld_row kr2 Tryz.underlying48 rfl info_cal
 have hB2:Below w.heap.size w W2:=hall.grown hg2 hall.size (fun k e=>by cases e;omega)
 go_wp2_with fail
 refine bodyPost_ret (v:=.tuple #[.agg (kq c),.int .i64 0]) (by simp[results,Tryz.results67,go_sem,l2]) rfl ?_
 rw[hv.out,HC.out]
 exact⟨rfl,hB2⟩
set_option maxHeartbeats 4000000 in
theorem BackB_level (c:Pl.Cal)(w:World)(hf:FldS w w.heap.size A1 A2 A3 A4 f)(hm:Small f)(hc:Caps c1 c2 c3 c4 f)(HC:Hid (Pl.checkCallE f c=0))(h5:c.kind=5):
  Calls Tryz.prog 67 #[.agg (fq A1 A2 A3 A4 c1 c2 c3 c4 f),.agg (kq c)] w (EndBk (Pl.backV f c) (Pl.checkCallE f c) w):=by
 have hv:Hid (Pl.backV f c= {c with fr:=c.till,till:=c.fr,size:= -c.size}):=Lib.hid (by unfold Pl.backV Pl.Cal.back;rw[if_pos HC.out,if_pos h5])
 have h5':(c.kind:Int)=5:=by omega
 obtain⟨_,ht⟩:=tab_of HC.out
 have hsz: -100000<=c.size∧c.size<=100000:=by have:=ht.2.2;omega
 have hng:IntKind.i64.wrap (-c.size)= -c.size:=IntWalk.i64_in _ (by omega)
 obtain⟨W0,hW0,kf,kc,kr,hall⟩:=back_w A1 A2 A3 A4 c1 c2 c3 c4 f c w
 have l01:=ld_row kf Tryz.underlying28 rfl info_fld
 have l02:=ld_row kc Tryz.underlying48 rfl info_cal
 have hcall:=fun W (hf:FldS W W.heap.size A1 A2 A3 A4 f)=>checkCallB_h A1 A2 A3 A4 c1 c2 c3 c4 f c 0 W HC hf hm hc
 simp only[h5']at hcall hW0 kc l02 ⊢
 clear h5' ht
 go_enter Tryz.func67,Tryz.ntmps67
 go_wp2_with fail
 refine(hcall _ (hf.up hall)).mono ?_
 rintro e w1 ⟨rfl,hx⟩
 clear l01 l02
 have kc:=kE hx kc
 have kr:=kE hx kr
 have hall:Below w.heap.size w w1:=hall.trans (hx.mono hall.size)
 clear hx
 have l1:=ld_row kc Tryz.underlying48 rfl info_cal
 obtain⟨hcc,hfc⟩:=blk_cells kc
 have l1a:=ld_row ((Below.heap_alloc w1 (.cells z13 48) _ (lO kc)).trans kc) Tryz.underlying48 rfl info_cal
 obtain⟨W2,X1,X2,W3,st,hX1,hX2,hW3,g2,g3,g4,g5⟩:=backB_out 5 c w w1 kc kr hall
 obtain⟨hc2,hf2⟩:=blk_cells g2.kc
 obtain⟨hc3,hf3⟩:=blk_cells g3.kc
 obtain⟨hc4,hf4⟩:=blk_cells g4.kc
 obtain⟨hc5,hf5⟩:=blk_cells g5.kc
 obtain⟨hd2,he2⟩:=blk_cells g2.kg
 obtain⟨hd3,he3⟩:=blk_cells g3.kg
 obtain⟨hd4,he4⟩:=blk_cells g4.kg
 obtain⟨W4,l4,st4,l5,hB4⟩:=backB_res g5 rfl (by simp[Value.oneCell'])
 clear g2 g3 g4 g5
 go_wp2_with fail
 refine bodyPost_ret (v:=.tuple #[.agg (kA13 5 c.lim c.oth c.till c.fr (-c.size) c.er c.crs.b c.crs.n c.crs.l c.crs.y c.crs.x c.crs.s),.int .i64 0]) (by simp[results,Tryz.results67,go_sem,l5]) rfl ?_
 rw[hv.out,HC.out]
 refine⟨?_,hB4⟩
 unfold calV
 simp only[h5]
 rfl
set_option maxHeartbeats 4000000 in
theorem BackB_course (c:Pl.Cal)(w:World)(hf:FldS w w.heap.size A1 A2 A3 A4 f)(hm:Small f)(hc:Caps c1 c2 c3 c4 f)(HC:Hid (Pl.checkCallE f c=0))(h5:c.kind=3):
  Calls Tryz.prog 67 #[.agg (fq A1 A2 A3 A4 c1 c2 c3 c4 f),.agg (kq c)] w (EndBk (Pl.backV f c) (Pl.checkCallE f c) w):=by
 have hv:Hid (Pl.backV f c= {c with fr:=c.till,till:=c.fr,crs:=c.crs.back}):=Lib.hid (by unfold Pl.backV Pl.Cal.back;rw[if_pos HC.out,if_neg (by omega),if_pos h5])
 have h5':(c.kind:Int)=3:=by omega
 obtain⟨_,ht⟩:=tab_of HC.out
 have hsz: -100000<=c.size∧c.size<=100000:=by have:=ht.2.2;omega
 have hng:IntKind.i64.wrap (-c.size)= -c.size:=IntWalk.i64_in _ (by omega)
 have hco:c.crs.ok=true:=by
  have:=HC.out
  unfold Pl.checkCallE at this
  split at this
  ·exact(Pl.callE_three this h5).1
  ·exact absurd this ‹_›
 have hz0:Hid (c.size=0):=Lib.hid (by have:=ht.2.2;omega)
 obtain⟨W0,hW0,kf,kc,kr,hall⟩:=back_w A1 A2 A3 A4 c1 c2 c3 c4 f c w
 have l01:=ld_row kf Tryz.underlying28 rfl info_fld
 have l02:=ld_row kc Tryz.underlying48 rfl info_cal
 have hcall:=fun W (hf:FldS W W.heap.size A1 A2 A3 A4 f)=>checkCallB_h A1 A2 A3 A4 c1 c2 c3 c4 f c 0 W HC hf hm hc
 simp only[h5']at hcall hW0 kc l02 ⊢
 clear h5' ht
 go_enter Tryz.func67,Tryz.ntmps67
 go_wp2_with fail
 refine(hcall _ (hf.up hall)).mono ?_
 rintro e w1 ⟨rfl,hx⟩
 clear l01 l02
 have kc:=kE hx kc
 have kr:=kE hx kr
 have hall:Below w.heap.size w w1:=hall.trans (hx.mono hall.size)
 clear hx
 have l1:=ld_row kc Tryz.underlying48 rfl info_cal
 obtain⟨hcc,hfc⟩:=blk_cells kc
 have l1a:=ld_row ((Below.heap_alloc w1 (.cells z13 48) _ (lO kc)).trans kc) Tryz.underlying48 rfl info_cal
 obtain⟨W2,X1,X2,W3,st,hX1,hX2,hW3,g2,g3,g4,g5⟩:=backB_out 3 c w w1 kc kr hall
 obtain⟨hc2,hf2⟩:=blk_cells g2.kc
 obtain⟨hc3,hf3⟩:=blk_cells g3.kc
 obtain⟨hc4,hf4⟩:=blk_cells g4.kc
 obtain⟨hc5,hf5⟩:=blk_cells g5.kc
 obtain⟨hd2,he2⟩:=blk_cells g2.kg
 obtain⟨hd3,he3⟩:=blk_cells g3.kg
 obtain⟨hd4,he4⟩:=blk_cells g4.kg
 have l03:=ld_crsC g5.kc
 clear g2 g3 g4
 go_wp2_with fail
 refine(ReverseB_ok c.crs _ hco).mono ?_
 rintro e w6 ⟨rfl,hx⟩
 have g6:=g5.upB hx
 obtain⟨W7,hW7,g7⟩:=backB_crs c w w6 w1.heap.size g6
 obtain⟨hd6,he6⟩:=blk_cells g6.kg
 obtain⟨W4,l4,st4,l5,hB4⟩:=backB_res g7 rfl (by simp[Value.oneCell'])
 have sv7:(storeVar 46 ⟨w1.heap.size,7,none⟩ (.agg (i6 ((c.crs.b+180)%360) c.crs.n c.crs.l c.crs.y c.crs.x c.crs.s))).run Tryz.prog w6=.ok () W7:=by
  rw[sv_course,<-hW7]
  simp[go_sem,hd6,he6]
 clear g5 g6 g7 hx hW7 hd6 he6 l03 hc2 hc3 hc4 hc5 hd2 hd3 hd4 hf2 hf3 hf4 hf5 he2 he3 he4
 go_wp2_with fail
 refine bodyPost_ret (v:=.tuple #[.agg (kA13 3 c.lim c.oth c.till c.fr (-c.size) c.er ((c.crs.b+180)%360) c.crs.n c.crs.l c.crs.y c.crs.x c.crs.s),.int .i64 0]) (by simp[results,Tryz.results67,go_sem,l5]) rfl ?_
 rw[hv.out,HC.out]
 refine⟨?_,hB4⟩
 unfold calV Pl.Crs.back
 simp only[h5,hz0.out]
 rfl
theorem BackB_h (c d:Pl.Cal)(E:Int)(w:World)(hD:Hid (Pl.backV f c=d))(hE:Hid (Pl.checkCallE f c=E))(hf:FldS w w.heap.size A1 A2 A3 A4 f)(hm:Small f)(hc:Caps c1 c2 c3 c4 f):
  Calls Tryz.prog 67 #[.agg (fq A1 A2 A3 A4 c1 c2 c3 c4 f),.agg (kq c)] w (EndBk d E w):=by
 rw[<-hD.out,<-hE.out]
 by_cases h0:Pl.checkCallE f c=0
 ·by_cases h3:c.kind=3
  ·exact BackB_course A1 A2 A3 A4 c1 c2 c3 c4 f c w hf hm hc (Lib.hid h0) h3
  ·by_cases h5:c.kind=5
   ·exact BackB_level A1 A2 A3 A4 c1 c2 c3 c4 f c w hf hm hc (Lib.hid h0) h5
   ·exact BackB_same A1 A2 A3 A4 c1 c2 c3 c4 f c w hf hm hc (Lib.hid h0) h3 h5
 ·exact BackB_no A1 A2 A3 A4 c1 c2 c3 c4 f c _ w hf hm hc (Lib.hid rfl) h0
end Go.Proofs.YtgbpekeoegfjpaaGreatDoor
namespace Go.Proofs.YtgbpekeoegfjpaaGreatDoor
open Go.RowKit
variable (A1 A2 A3 A4 : Option Addr) (c1 c2 c3 c4 : Nat) (f : Pl.Fld)
set_option maxHeartbeats 4000000 in
theorem sameBounds_a (A A':Option Addr)(c c' n:Nat)(l:List Pl.Bd)(w:World)(hn:l.length=n)(hl:Bds w w.heap.size A l)(hm:l.length<=100000)(hl':Bds w w.heap.size A' l):
  Calls Tryz.prog 28 #[.slice A n c,.slice A' n c'] w fun e w'=>e=.returned (.bool true)∧Below w.heap.size w w':=by
 subst hn
 go_enter Tryz.func28,Tryz.ntmps28
 go_wp2
 go_loopw [5] (fun i wr=> ∃(k:Nat),k<=l.length∧i=.int .i64 k∧Below w.heap.size w wr) (fun i _=>l.length-(intOf i).toNat)
 case atStart=>exact⟨0,by omega,rfl,by go_grown⟩
 case round=>
  obtain⟨k,hk,rfl,hall⟩:=hrel
  by_cases hlt:k<l.length
  ·obtain⟨b,off,hA,hbB,q0,q1,q2,q3⟩:=Bds.at4 (hl.below hall) hlt
   obtain⟨b',off',hA',hbB',r0,r1,r2,r3⟩:=Bds.at4 (hl'.below hall) hlt
   obtain⟨⟨f,t,m,r⟩,hbd⟩: ∃x,l[k]=x:=⟨_,rfl⟩
   rw[hbd]at q0 q1 q2 q3 r0 r1 r2 r3
   simp only at q0 q1 q2 q3 r0 r1 r2 r3
   clear hbd
   subst hA hA'
   have e1:(0:Int)<=(k:Int):=by omega
   have e2:(k:Int)<(l.length:Int):=by omega
   go_wp2
   go_region_held3 (fun W=>W.cell? ⟨b,off+k*4,none⟩=some (.int .i64 (f:Int))∧W.cell? ⟨b,off+k*4+1,none⟩=some (.int .i64 (t:Int))∧W.cell? ⟨b,off+k*4+2,none⟩=some (.int .i64 m)∧W.cell? ⟨b,off+k*4+3,none⟩=some (.int .i64 r)∧W.cell? ⟨b',off'+k*4,none⟩=some (.int .i64 (f:Int))∧W.cell? ⟨b',off'+k*4+1,none⟩=some (.int .i64 (t:Int))∧W.cell? ⟨b',off'+k*4+2,none⟩=some (.int .i64 m)∧W.cell? ⟨b',off'+k*4+3,none⟩=some (.int .i64 r)) (exact⟨q0,q1,q2,q3,r0,r1,r2,r3⟩) (fail)
   all_goals go_wp2
   all_goals (
    go_roundw
    case rel=>exact⟨k+1,by omega,by go_num,by first|(go_grown;done)|exact below_drewN hall _⟩
    case measure=>simp[intOf];try omega)
  ·go_wp2
   go_ret
   exact⟨rfl,hall⟩
end Go.Proofs.YtgbpekeoegfjpaaGreatDoor
namespace Go.Proofs.YtgbpekeoegfjpaaGreatDoor
open Go.RowKit
variable (A1 A2 A3 A4 : Option Addr) (c1 c2 c3 c4 : Nat) (f : Pl.Fld)
theorem Concerns_h (c:Pl.Cal)(X:List Int)(E:Int)(w:World)(hX:Hid (Pl.concV f c=X))(hE:Hid (Pl.checkCallE f c=E))(hf:FldS w w.heap.size A1 A2 A3 A4 f)(hm:Small f)(hc:Caps c1 c2 c3 c4 f)(hk:c.kind<=255):
  Calls Tryz.prog 64 #[.agg (fq A1 A2 A3 A4 c1 c2 c3 c4 f),.agg (kq c)] w (EndIs X E w):=by
 rw[<-hX.out]
 unfold Pl.concV
 by_cases h0:Pl.checkCallE f c=0
 ·rw[if_pos h0,<-hE.out,h0,<-Pl.conc_eq (tab_of h0).2]
  exact Concerns_ok A1 A2 A3 A4 c1 c2 c3 c4 f c w hf hm hc hk h0
 ·rw[if_neg h0]
  exact Concerns_no A1 A2 A3 A4 c1 c2 c3 c4 f c E w hf hm hc hk hE (by rw[<-hE.out];exact h0)
theorem eq_cal (d:Pl.Cal)(W:World):(Op.equalIn 10000 48 (.agg (kq d)) (.agg (kq d))).run Tryz.prog W=.ok true W:=by
 simp[go_sem]
attribute [-go_sem] run_equalIn_agg storeVar loadVar
attribute [local go_sem] lv_int lv_bool lv_u8 lv_string lv_strings lv_stas lv_pars lv_vars
theorem concV_len (f:Pl.Fld)(c:Pl.Cal):(Pl.concV f c).length<=100000:=by
 unfold Pl.concV
 split
 ·rename_i h
  obtain⟨hok,_⟩:=tab_of h
  have:=Pl.points_bd hok
  have:=Pl.concR_len (f.li.length*f.st.length) (Pl.boundsC f c 0)
  omega
 ·simp
theorem boundsV_len (f:Pl.Fld)(c:Pl.Cal)(r:Int):(Pl.boundsV f c r).length<=100000:=by
 unfold Pl.boundsV
 split
 ·rename_i h0
  have hc:Pl.checkCallE f c=0:=by
   unfold Pl.boundsE at h0
   split at h0
   ·assumption
   ·exact h0
  obtain⟨hok,ht⟩:=tab_of hc
  have:=spans_few (f:=f) ht hok.st12
  rw[Pl.boundsC_len]
  omega
 ·simp
theorem sr_of {c d:Pl.Cal}{g p q:Nat}{W:World}(kf:W.heap[g]?=some (.cells (fq A1 A2 A3 A4 c1 c2 c3 c4 f) 28 (0,0)))(kc:W.heap[g+1]?=some (.cells (kq c) 48 (0,0)))(kp:W.heap[p]?=some (.cells (kq d) 48 (0,0)))(kqq:W.heap[q]?=some (.cells (kq d) 48 (0,0))):
  (loadVar 28 ⟨g,0,none⟩).run Tryz.prog W=.ok (.agg (fq A1 A2 A3 A4 c1 c2 c3 c4 f)) W∧(loadVar 48 ⟨g+1,0,none⟩).run Tryz.prog W=.ok (.agg (kq c)) W∧(loadVar 48 ⟨p,0,none⟩).run Tryz.prog W=.ok (.agg (kq d)) W∧(loadVar 48 ⟨q,0,none⟩).run Tryz.prog W=.ok (.agg (kq d)) W:=
 ⟨ld_row kf Tryz.underlying28 rfl info_fld,ld_row kc Tryz.underlying48 rfl info_cal,ld_row kp Tryz.underlying48 rfl info_cal,ld_row kqq Tryz.underlying48 rfl info_cal⟩
set_option maxHeartbeats 8000000 in
theorem deedCalls_ok (c:Pl.Cal)(r:Int)(L:List Pl.Bd)(E1 E2:Int)(X:List Int)(d:Pl.Cal)(w:World)(hEn:Env w)(hf:FldS w w.heap.size A1 A2 A3 A4 f)(hm:Small f)(hc:Caps c1 c2 c3 c4 f)(hk:c.kind<=255)(hv:Hid (Pl.vast f=false))(HL:Hid (Pl.boundsV f c r=L))(HE1:Hid (Pl.boundsE f c r=E1))(HE2:Hid (Pl.checkCallE f c=E2))(HX:Hid (Pl.concV f c=X))(HD:Hid (Pl.backV f c=d))(hL:L.length<=100000)(hX:X.length<=100000):
  Calls Tryz.prog 15 #[.agg (fq A1 A2 A3 A4 c1 c2 c3 c4 f),.agg (kq c),.int .i64 r] w fun e w'=>e=.returned (.bool true)∧Below w.heap.size w w':=by
 have kf:=(heap_alloc_new w (.cells (fq A1 A2 A3 A4 c1 c2 c3 c4 f) 28))
 have kc:=(heap_alloc_new (w.alloc (.cells (fq A1 A2 A3 A4 c1 c2 c3 c4 f) 28)) (.cells (kq c) 48))
 rw[World.size_alloc]at kc
 have kf:=(Below.heap_alloc _ (.cells (kq c) 48) _ (lO kf)).trans kf
 have l01:=ld_row kf Tryz.underlying28 rfl info_fld
 have l02:=ld_row kc Tryz.underlying48 rfl info_cal
 have hall:Below w.heap.size w ((w.alloc (.cells (fq A1 A2 A3 A4 c1 c2 c3 c4 f) 28)).alloc (.cells (kq c) 48)):=((Below.refl _ w).alloc (Nat.le_refl _) _).alloc (by simp) _
 go_enter Tryz.func15,Tryz.ntmps15
 go_wp2_with fail
 refine(vast_a A1 A2 A3 A4 c1 c2 c3 c4 f _ (hf.up hall) false hv).mono ?_
 rintro e w1 ⟨rfl,hx⟩
 replace kf:=kE hx kf;replace kc:=kE hx kc;replace hall:Below w.heap.size w _:=hall.trans (hx.mono hall.size);(try clear l01 l02);have l01:=ld_row kf Tryz.underlying28 rfl info_fld;have l02:=ld_row kc Tryz.underlying48 rfl info_cal;(try clear hcf hff hcc hfc);obtain⟨hcf,hff⟩:=blk_cells kf;obtain⟨hcc,hfc⟩:=blk_cells kc;clear hx
 go_wp2_with fail
 refine(Bounds_h A1 A2 A3 A4 c1 c2 c3 c4 f c r L E1 _ HL HE1 (hf.up hall) hm hc hk).mono ?_
 rintro e w2 ⟨B1,b1,rfl,hB1,_,_,hx⟩
 replace kf:=kE hx kf;replace kc:=kE hx kc;replace hall:Below w.heap.size w _:=hall.trans (hx.mono hall.size);(try clear l01 l02);have l01:=ld_row kf Tryz.underlying28 rfl info_fld;have l02:=ld_row kc Tryz.underlying48 rfl info_cal;(try clear hcf hff hcc hfc);obtain⟨hcf,hff⟩:=blk_cells kf;obtain⟨hcc,hfc⟩:=blk_cells kc;clear hx
 go_wp2_with fail
 refine(BoundsB_h A1 A2 A3 A4 c1 c2 c3 c4 f c r L E1 _ HL HE1 (hf.up hall) hm hc).mono ?_
 rintro e w3 ⟨B2,b2,rfl,hB2,hx⟩
 replace hB1:=hB1.up hx
 replace kf:=kE hx kf;replace kc:=kE hx kc;replace hall:Below w.heap.size w _:=hall.trans (hx.mono hall.size);(try clear l01 l02);have l01:=ld_row kf Tryz.underlying28 rfl info_fld;have l02:=ld_row kc Tryz.underlying48 rfl info_cal;(try clear hcf hff hcc hfc);obtain⟨hcf,hff⟩:=blk_cells kf;obtain⟨hcc,hfc⟩:=blk_cells kc;clear hx
 go_wp2_with fail
 refine(Concerns_h A1 A2 A3 A4 c1 c2 c3 c4 f c X E2 _ HX HE2 (hf.up hall) hm hc hk).mono ?_
 rintro e w4 ⟨X1,x1,rfl,hX1,_,hx⟩
 replace hB1:=hB1.up hx
 replace hB2:=hB2.up hx
 replace kf:=kE hx kf;replace kc:=kE hx kc;replace hall:Below w.heap.size w _:=hall.trans (hx.mono hall.size);(try clear l01 l02);have l01:=ld_row kf Tryz.underlying28 rfl info_fld;have l02:=ld_row kc Tryz.underlying48 rfl info_cal;(try clear hcf hff hcc hfc);obtain⟨hcf,hff⟩:=blk_cells kf;obtain⟨hcc,hfc⟩:=blk_cells kc;clear hx
 go_wp2_with fail
 refine(ConcernsB_h A1 A2 A3 A4 c1 c2 c3 c4 f c X E2 _ HX HE2 (hf.up hall) hm hc).mono ?_
 rintro e w5 ⟨X2,x2,rfl,hX2,_,hx⟩
 replace hB1:=hB1.up hx
 replace hB2:=hB2.up hx
 replace hX1:=hX1.up hx
 replace kf:=kE hx kf;replace kc:=kE hx kc;replace hall:Below w.heap.size w _:=hall.trans (hx.mono hall.size);(try clear l01 l02);have l01:=ld_row kf Tryz.underlying28 rfl info_fld;have l02:=ld_row kc Tryz.underlying48 rfl info_cal;(try clear hcf hff hcc hfc);obtain⟨hcf,hff⟩:=blk_cells kf;obtain⟨hcc,hfc⟩:=blk_cells kc;clear hx
 go_wp2_with fail
 refine(Back_h A1 A2 A3 A4 c1 c2 c3 c4 f c d E2 _ HD HE2 (hf.up hall) hm hc hk).mono ?_
 rintro e w6 ⟨rfl,hx⟩
 replace hB1:=hB1.up hx
 replace hB2:=hB2.up hx
 replace hX1:=hX1.up hx
 replace hX2:=hX2.up hx
 replace kf:=kE hx kf;replace kc:=kE hx kc;replace hall:Below w.heap.size w _:=hall.trans (hx.mono hall.size);(try clear l01 l02);have l01:=ld_row kf Tryz.underlying28 rfl info_fld;have l02:=ld_row kc Tryz.underlying48 rfl info_cal;(try clear hcf hff hcc hfc);obtain⟨hcf,hff⟩:=blk_cells kf;obtain⟨hcc,hfc⟩:=blk_cells kc;clear hx
 unfold calV
 obtain⟨W6,st6,kp,hx⟩:=sp_2 (kq d) rfl (by simp[Value.oneCell']) w6
 replace hB1:=hB1.up hx
 replace hB2:=hB2.up hx
 replace hX1:=hX1.up hx
 replace hX2:=hX2.up hx
 replace kf:=kE hx kf;replace kc:=kE hx kc;replace hall:Below w.heap.size w _:=hall.trans (hx.mono hall.size);(try clear l01 l02);have l01:=ld_row kf Tryz.underlying28 rfl info_fld;have l02:=ld_row kc Tryz.underlying48 rfl info_cal;(try clear hcf hff hcc hfc);obtain⟨hcf,hff⟩:=blk_cells kf;obtain⟨hcc,hfc⟩:=blk_cells kc;clear hx
 go_wp2_with fail
 refine(BackB_h A1 A2 A3 A4 c1 c2 c3 c4 f c d E2 _ HD HE2 (hf.up hall) hm hc).mono ?_
 rintro e w7 ⟨rfl,hx⟩
 replace hB1:=hB1.up hx
 replace hB2:=hB2.up hx
 replace hX1:=hX1.up hx
 replace hX2:=hX2.up hx
 replace kp:=kE hx kp
 clear st6
 replace kf:=kE hx kf;replace kc:=kE hx kc;replace hall:Below w.heap.size w _:=hall.trans (hx.mono hall.size);(try clear l01 l02);have l01:=ld_row kf Tryz.underlying28 rfl info_fld;have l02:=ld_row kc Tryz.underlying48 rfl info_cal;(try clear hcf hff hcc hfc);obtain⟨hcf,hff⟩:=blk_cells kf;obtain⟨hcc,hfc⟩:=blk_cells kc;clear hx
 unfold calV
 obtain⟨W7,st7,kqq,hx⟩:=sp_2 (kq d) rfl (by simp[Value.oneCell']) w7
 replace hB1:=hB1.up hx
 replace hB2:=hB2.up hx
 replace hX1:=hX1.up hx
 replace hX2:=hX2.up hx
 replace kp:=kE hx kp
 replace kf:=kE hx kf;replace kc:=kE hx kc;replace hall:Below w.heap.size w _:=hall.trans (hx.mono hall.size);(try clear l01 l02);have l01:=ld_row kf Tryz.underlying28 rfl info_fld;have l02:=ld_row kc Tryz.underlying48 rfl info_cal;(try clear hcf hff hcc hfc);obtain⟨hcf,hff⟩:=blk_cells kf;obtain⟨hcc,hfc⟩:=blk_cells kc;clear hx
 have hEq:=eq_cal d
 clear l01 l02 hcf hff hcc hfc
 go_wp2_with fail
 clear st7
 replace hB1:Bds W7.drew W7.drew.heap.size B1 L:=hB1
 replace hB2:Bds W7.drew W7.drew.heap.size B2 L:=hB2
 replace hX1:Ints W7.drew W7.drew.heap.size X1 X:=hX1
 replace hX2:Ints W7.drew W7.drew.heap.size X2 X:=hX2
 replace kf:=(show W7.drew.heap[_]?=_ from kf)
 replace kc:=(show W7.drew.heap[_]?=_ from kc)
 replace kp:=(show W7.drew.heap[_]?=_ from kp)
 replace kqq:=(show W7.drew.heap[_]?=_ from kqq)
 replace hall:=hall.drew
 go_region_held3 (fun W=>(loadVar 28 ⟨w.heap.size,0,none⟩).run Tryz.prog W=.ok (.agg (fq A1 A2 A3 A4 c1 c2 c3 c4 f)) W∧(loadVar 48 ⟨w.heap.size+1,0,none⟩).run Tryz.prog W=.ok (.agg (kq c)) W∧(loadVar 48 ⟨w6.heap.size,0,none⟩).run Tryz.prog W=.ok (.agg (kq d)) W∧(loadVar 48 ⟨w7.heap.size,0,none⟩).run Tryz.prog W=.ok (.agg (kq d)) W) (exact sr_of A1 A2 A3 A4 c1 c2 c3 c4 f kf kc kp kqq) (first
  |(go_at_call 18;refine(spoken_a _ (hEn.up hall)).mono ?_;rintro e w8 ⟨rfl,hx⟩;replace hB1:=hB1.up hx;replace hB2:=hB2.up hx;replace hX1:=hX1.up hx;replace hX2:=hX2.up hx;replace kf:=kE hx kf;replace kc:=kE hx kc;replace kp:=kE hx kp;replace kqq:=kE hx kqq;replace hall:Below w.heap.size w w8:=hall.trans (hx.mono hall.size);clear hx)
  |(go_at_call 28;refine(sameBounds_a B1 B2 b1 b2 _ L _ rfl hB1 hL hB2).mono ?_;rintro e w9 ⟨rfl,hx⟩;replace hX1:=hX1.up hx;replace hX2:=hX2.up hx;replace kf:=kE hx kf;replace kc:=kE hx kc;replace kp:=kE hx kp;replace kqq:=kE hx kqq;replace hall:Below w.heap.size w w9:=hall.trans (hx.mono hall.size);clear hx)
  |(go_at_call 56;refine(sameInts_a X1 X2 x1 x2 _ X _ rfl hX1 hX hX2).mono ?_;rintro e w10 ⟨rfl,hx⟩;replace kf:=kE hx kf;replace kc:=kE hx kc;replace kp:=kE hx kp;replace kqq:=kE hx kqq;replace hall:Below w.heap.size w w10:=hall.trans (hx.mono hall.size);clear hx)
  |(go_at_call 38;refine(checkCall_h A1 A2 A3 A4 c1 c2 c3 c4 f c E2 _ HE2 (hf.up hall) hm hc hk).mono ?_;rintro e w11 ⟨rfl,hx⟩;replace kf:=kE hx kf;replace kc:=kE hx kc;replace kp:=kE hx kp;replace kqq:=kE hx kqq;replace hall:Below w.heap.size w w11:=hall.trans (hx.mono hall.size);clear hx)
  |(go_at_call 68;refine(checkCallB_h A1 A2 A3 A4 c1 c2 c3 c4 f c E2 _ HE2 (hf.up hall) hm hc).mono ?_;rintro e w12 ⟨rfl,hx⟩;replace kf:=kE hx kf;replace kc:=kE hx kc;replace kp:=kE hx kp;replace kqq:=kE hx kqq;replace hall:Below w.heap.size w w12:=hall.trans (hx.mono hall.size);clear hx))
 all_goals go_wp2_with fail
 all_goals go_ret
 all_goals exact⟨by first|rfl|(simp;done),hall⟩
set_option maxHeartbeats 4000000 in
theorem deedCalls_w (c:Pl.Cal)(r:Int)(w:World)(hEn:Env w)(hf:FldS w w.heap.size A1 A2 A3 A4 f)(hc:Caps c1 c2 c3 c4 f)(hk:c.kind<=255):
  Calls Tryz.prog 15 #[.agg (fq A1 A2 A3 A4 c1 c2 c3 c4 f),.agg (kq c),.int .i64 r] w fun e w'=>e=.returned (.bool true)∧Below w.heap.size w w':=by
 cases hv:Pl.vast f with
 |false=>
  exact deedCalls_ok A1 A2 A3 A4 c1 c2 c3 c4 f c r _ _ _ _ _ w hEn hf (Pl.vast_small hv) hc hk (Lib.hid hv) (Lib.hid rfl) (Lib.hid rfl) (Lib.hid rfl) (Lib.hid rfl) (Lib.hid rfl) (boundsV_len f c r) (concV_len f c)
 |true=>
  have hv:=Lib.hid hv
  have kf:=(heap_alloc_new w (.cells (fq A1 A2 A3 A4 c1 c2 c3 c4 f) 28))
  have kc:=(heap_alloc_new (w.alloc (.cells (fq A1 A2 A3 A4 c1 c2 c3 c4 f) 28)) (.cells (kq c) 48))
  rw[World.size_alloc]at kc
  have kf:=(Below.heap_alloc _ (.cells (kq c) 48) _ (lO kf)).trans kf
  have l01:=ld_row kf Tryz.underlying28 rfl info_fld
  have l02:=ld_row kc Tryz.underlying48 rfl info_cal
  have hall:Below w.heap.size w ((w.alloc (.cells (fq A1 A2 A3 A4 c1 c2 c3 c4 f) 28)).alloc (.cells (kq c) 48)):=((Below.refl _ w).alloc (Nat.le_refl _) _).alloc (by simp) _
  go_enter Tryz.func15,Tryz.ntmps15
  go_wp2_with fail
  refine(vast_a A1 A2 A3 A4 c1 c2 c3 c4 f _ (hf.up hall) true hv).mono ?_
  rintro e w1 ⟨rfl,hx⟩
  replace kf:=kE hx kf;replace kc:=kE hx kc;replace hall:Below w.heap.size w _:=hall.trans (hx.mono hall.size);(try clear l01 l02);have l01:=ld_row kf Tryz.underlying28 rfl info_fld;have l02:=ld_row kc Tryz.underlying48 rfl info_cal;(try clear hcf hff hcc hfc);obtain⟨hcf,hff⟩:=blk_cells kf;obtain⟨hcc,hfc⟩:=blk_cells kc;clear hx
  go_wp2_with fail
  refine(spoken_a _ (hEn.up hall)).mono ?_
  rintro e w7 ⟨rfl,hx⟩
  replace kf:=kE hx kf;replace kc:=kE hx kc;replace hall:Below w.heap.size w _:=hall.trans (hx.mono hall.size);(try clear l01 l02);have l01:=ld_row kf Tryz.underlying28 rfl info_fld;have l02:=ld_row kc Tryz.underlying48 rfl info_cal;(try clear hcf hff hcc hfc);obtain⟨hcf,hff⟩:=blk_cells kf;obtain⟨hcc,hfc⟩:=blk_cells kc;clear hx
  go_wp2_with fail
  go_ret
  exact⟨rfl,hall⟩
end Go.Proofs.YtgbpekeoegfjpaaGreatDoor
