/- TP, TQ, TR in one text. -/
import Derived.Test.YtgbpekeoegfjpaaGreatDoorPD
import Derived.Test.YtgbpekeoegfjpaaGreatDoorPB
import Derived.Test.YtgbpekeoegfjpaaGreatDoorProg
import Derived.WalkKit
import Derived.WalkLawsBesides
import Derived.WalkSpells
import Derived.Handy
import Derived.Lib.Hide
import Derived.Great.BuildSlice
import Derived.Deep.QuietTactic
import Derived.BigQuiet
import Derived.Deep.RegionHeld3
import Derived.Deep.DeepCutAuto
import Derived.Test.YtgbpekeoegfjpaaGreatDoorP3a
import Derived.Test.YtgbpekeoegfjpaaGreatDoorZ23
import Derived.Test.YtgbpekeoegfjpaaGreatDoorZ24
namespace Go.Proofs.YtgbpekeoegfjpaaGreatDoor
open Go.RowKit
theorem str_is (x:ByteArray)(k:ByteArray)(l:List UInt8)(hk:k.toList=l):(x.toList==l)=decide (x=k):=by rw[<-hk,str_same]
theorem itemB_a (A:Option Addr)(c0:Nat)(l:List ByteArray)(w:World)(hl:Nms w w.heap.size A l)(hc:l.length<=c0)(ht:Pl.tot l<=100000)(h0:l≠ []):
  ∃b off,A=some ⟨b,off,none⟩∧Calls Tryz.prog 76 #[.slice A l.length c0] w (EndIt (Pl.item l) (Pl.wd l 1) b off c0 w):=by
 obtain⟨b,off,rfl,_,_⟩:=Nms.at1 hl (k:=0) (List.length_pos_iff.2 h0)
 refine⟨b,off,rfl,?_⟩
 have u: ∀k (h:k<l.length),∀W,Below w.heap.size w W->W.cell? ⟨b,off+k,none⟩=some (.string l[k]):=fun k h W hW=>by
  obtain⟨b',off',hA,_,hu⟩:=Nms.at1 (hl.up hW) h
  obtain⟨rfl,rfl⟩:b=b'∧off=off':=by simpa using hA
  exact hu
 have hs: ∀k (h:k<l.length),l[k].size<=100000:=fun k h=>by have:=Pl.tot_mem (List.getElem_mem h);omega
 have no: ∀n0 n1 r,l=n0::n1::r->Pl.item l=none->((n0≠Pl.wVariation∧n0≠Pl.wStation∧n0≠Pl.wLimit∧n0≠Pl.wParcel)∨(n0=Pl.wVariation∧l.length≠3)∨(n0=Pl.wStation∧l.length≠3)∨(n0=Pl.wLimit∧l.length≠2)∨(n0=Pl.wParcel∧l.length≠5))->
   Calls Tryz.prog 76 #[.slice (some ⟨b,off,none⟩) l.length c0] w (EndIt (Pl.item l) (Pl.wd l 1) b off c0 w):=by
  intro n0 n1 r e hi hk
  have e0: ∀(h:0<l.length),l[0]=n0:=by subst e;exact fun _=>rfl
  have e1: ∀(h:1<l.length),l[1]=n1:=by subst e;exact fun _=>rfl
  have ew:Pl.wd l 1=n1:=by subst e;rfl
  have h2:2<=l.length:=by subst e;simp
  have u0:=u 0 (by omega)
  have u1:=u 1 (by omega)
  rw[e0]at u0
  rw[e1]at u1
  rw[ew]
  refine it_no b off c0 n0 n1 l (decide (n0=Pl.wVariation)) (decide (n0=Pl.wStation)) (decide (n0=Pl.wLimit)) (decide (n0=Pl.wParcel)) ((l.length:Int)==2) ((l.length:Int)==3) ((l.length:Int)==5) w u0 u1 h2
   (str_is _ _ _ (by unfold Pl.wVariation;rw[ByteArray.toList_eq])) (str_is _ _ _ (by unfold Pl.wStation;rw[ByteArray.toList_eq])) (str_is _ _ _ (by unfold Pl.wLimit;rw[ByteArray.toList_eq])) (str_is _ _ _ (by unfold Pl.wParcel;rw[ByteArray.toList_eq])) rfl rfl rfl ?_ (Lib.hid hi)
  have q: ∀m:Nat,l.length≠m->((l.length:Int)==(m:Int))=false:=fun m h=>by rw[beq_eq_false_iff_ne];omega
  rcases hk with ⟨h1,h2,h3,h4⟩|⟨rfl,h⟩|⟨rfl,h⟩|⟨rfl,h⟩|⟨rfl,h⟩
  ·exact .inl ⟨decide_eq_false h1,decide_eq_false h2,decide_eq_false h3,decide_eq_false h4⟩
  ·exact .inr (.inl ⟨by decide,by decide,by decide,by decide,q 3 h⟩)
  ·exact .inr (.inr (.inl ⟨by decide,by decide,by decide,by decide,q 3 h⟩))
  ·exact .inr (.inr (.inr (.inl ⟨by decide,by decide,by decide,by decide,q 2 h⟩)))
  ·exact .inr (.inr (.inr (.inr ⟨by decide,by decide,by decide,by decide,q 5 h⟩)))
 match l,h0,no,u,hs,hc,hl with
 | [n0],_,no,u,hs,hc,hl=>
  exact it_one b off c0 _ n0 [n0] w (u 0 (by simp)) rfl (Lib.hid rfl)
 | [n0,a],_,no,u,hs,hc,hl=>
  by_cases h1:n0=Pl.wLimit
  ·subst h1
   exact it_lim b off c0 a w (u 0 (by simp)) (u 1 (by simp)) (hs 1 (by simp))
  ·refine no n0 a [] rfl (show(if n0=Pl.wLimit∧Pl.isName a=true then some (Pl.Item.limit a)else none)=none from if_neg (fun h=>h1 h.1)) ?_
   by_cases h2:n0=Pl.wVariation
   ·exact .inr (.inl ⟨h2,by simp⟩)
   by_cases h3:n0=Pl.wStation
   ·exact .inr (.inr (.inl ⟨h3,by simp⟩))
   by_cases h4:n0=Pl.wParcel
   ·exact .inr (.inr (.inr (.inr ⟨h4,by simp⟩)))
   exact .inl ⟨h2,h3,h1,h4⟩
 | [n0,x,y],_,no,u,hs,hc,hl=>
  by_cases h1:n0=Pl.wStation
  ·subst h1
   exact it_sta b off c0 x y w (u 0 (by simp)) (u 1 (by simp)) (u 2 (by simp)) (hs 1 (by simp)) (hs 2 (by simp))
  by_cases h2:n0=Pl.wVariation
  ·subst h2
   exact it_var b off c0 x y w (u 0 (by simp)) (u 1 (by simp)) (u 2 (by simp)) (hs 1 (by simp)) (hs 2 (by simp))
  ·refine no n0 x [y] rfl (show(if n0=Pl.wStation then (if Pl.isName x=true then (Pl.numF y).map (Pl.Item.station x)else none)else if n0=Pl.wVariation then (Pl.numF x).bind fun v=>(Pl.sgnV y).map (Pl.Item.variation v)else none)=none by rw[if_neg h1,if_neg h2]) ?_
   by_cases h3:n0=Pl.wLimit
   ·exact .inr (.inr (.inr (.inl ⟨h3,by simp⟩)))
   by_cases h4:n0=Pl.wParcel
   ·exact .inr (.inr (.inr (.inr ⟨h4,by simp⟩)))
   exact .inl ⟨h2,h1,h3,h4⟩
 | [n0,x,y,z],_,no,u,hs,hc,hl=>
  refine no n0 x [y,z] rfl rfl ?_
  by_cases h1:n0=Pl.wVariation
  ·exact .inr (.inl ⟨h1,by simp⟩)
  by_cases h2:n0=Pl.wStation
  ·exact .inr (.inr (.inl ⟨h2,by simp⟩))
  by_cases h3:n0=Pl.wLimit
  ·exact .inr (.inr (.inr (.inl ⟨h3,by simp⟩)))
  by_cases h4:n0=Pl.wParcel
  ·exact .inr (.inr (.inr (.inr ⟨h4,by simp⟩)))
  exact .inl ⟨h1,h2,h3,h4⟩
 | [n0,x,y,p,q],_,no,u,hs,hc,hl=>
  by_cases h1:n0=Pl.wParcel
  ·subst h1
   exact it_par b off c0 x y p q w (u 0 (by simp)) (u 1 (by simp)) (u 2 (by simp)) (u 3 (by simp)) (u 4 (by simp)) (hs 1 (by simp)) (hs 2 (by simp)) (hs 3 (by simp)) (hs 4 (by simp)) hc
  ·refine no n0 x [y,p,q] rfl (show(if n0=Pl.wParcel∧Pl.isName x=true∧Pl.isName y=true∧Pl.isName p=true∧Pl.isName q=true then some (Pl.Item.parcel x y p q)else none)=none from if_neg (fun h=>h1 h.1)) ?_
   by_cases h2:n0=Pl.wVariation
   ·exact .inr (.inl ⟨h2,by simp⟩)
   by_cases h3:n0=Pl.wStation
   ·exact .inr (.inr (.inl ⟨h3,by simp⟩))
   by_cases h4:n0=Pl.wLimit
   ·exact .inr (.inr (.inr (.inl ⟨h4,by simp⟩)))
   exact .inl ⟨h2,h3,h4,h1⟩
 |n0::x::y::p::q::r::t,_,no,u,hs,hc,hl=>
  refine no n0 x (y::p::q::r::t) rfl rfl ?_
  by_cases h1:n0=Pl.wVariation
  ·exact .inr (.inl ⟨h1,by simp⟩)
  by_cases h2:n0=Pl.wStation
  ·exact .inr (.inr (.inl ⟨h2,by simp⟩))
  by_cases h3:n0=Pl.wLimit
  ·exact .inr (.inr (.inr (.inl ⟨h3,by simp⟩)))
  by_cases h4:n0=Pl.wParcel
  ·exact .inr (.inr (.inr (.inr ⟨h4,by simp⟩)))
  exact .inl ⟨h1,h2,h3,h4⟩
theorem item_wd {l:List ByteArray}{x:Pl.Item}(h:Pl.item l=some x):match x with
  | .station n _=>Pl.wd l 1=n
  | .limit n=>Pl.wd l 1=n
  | .parcel n a b c=> ∃k,l=[k,n,a,b,c]
  | .variation _ _=>True:=by
 match l,h with
 | [k,a],h=>
  have h:(if k=Pl.wLimit∧Pl.isName a=true then some (Pl.Item.limit a)else none)=some x:=h
  split at h
  ·cases h;rfl
  ·cases h
 | [k,a,b],h=>
  have h:(if k=Pl.wStation then (if Pl.isName a=true then (Pl.numF b).map (Pl.Item.station a)else none)else if k=Pl.wVariation then (Pl.numF a).bind fun v=>(Pl.sgnV b).map (Pl.Item.variation v)else none)=some x:=h
  split at h
  ·split at h
   ·obtain⟨v,_,rfl⟩:=Option.map_eq_some_iff.1 h;rfl
   ·cases h
  ·split at h
   ·obtain⟨y,_,h2⟩:=Option.bind_eq_some_iff.1 h
    obtain⟨v,_,rfl⟩:=Option.map_eq_some_iff.1 h2
    trivial
   ·cases h
 | [k,a,b,c,d],h=>
  have h:(if k=Pl.wParcel∧Pl.isName a=true∧Pl.isName b=true∧Pl.isName c=true∧Pl.isName d=true then some (Pl.Item.parcel a b c d)else none)=some x:=h
  split at h
  ·cases h;exact⟨k,rfl⟩
  ·cases h
theorem addedB_a (A1 A2 A3 A4:Option Addr)(c1 c2 c3 c4:Nat)(f:Pl.Fld)(b off c0:Nat)(l:List ByteArray)(x:Pl.Item)(w:World)(hl:Nms w w.heap.size (some ⟨b,off,none⟩) l)(hx:Pl.item l=some x)(hf:FldS w w.heap.size A1 A2 A3 A4 f)(hm:Small f)(hc:Caps c1 c2 c3 c4 f):
  Calls Tryz.prog 77 #[.agg (fq A1 A2 A3 A4 c1 c2 c3 c4 f),.agg (itX (Pl.wd l 1) b off c0 x)] w (EndAd (Pl.added f x) A1 A2 A3 A4 w):=by
 have hw:=item_wd hx
 cases x with
 |station n y=>
  have hw:Pl.wd l 1=n:=hw
  rw[hw]
  exact ad_sta A1 A2 A3 A4 c1 c2 c3 c4 f n y w hf hc hm.st
 |limit n=>
  have hw:Pl.wd l 1=n:=hw
  rw[hw]
  exact ad_lim A1 A2 A3 A4 c1 c2 c3 c4 f n w hf hc hm.li
 |variation y e=>exact ad_var A1 A2 A3 A4 c1 c2 c3 c4 f _ y e w hf hc hm.va
 | parcel n s1 s2 s3=>
  obtain⟨k,rfl⟩: ∃k,l=[k,n,s1,s2,s3]:=hw
  have u: ∀j (h:j<5),∀W,Below w.heap.size w W->W.cell? ⟨b,off+j,none⟩=some (.string [k,n,s1,s2,s3][j]):=fun j h W hW=>by
   obtain⟨b',off',hA,_,hu⟩:=Nms.at1 (hl.up hW) (k:=j) h
   obtain⟨rfl,rfl⟩:b=b'∧off=off':=by simpa using hA
   exact hu
  exact ad_par A1 A2 A3 A4 c1 c2 c3 c4 f n s1 s2 s3 b (off+2) (c0-2) w hf hm hc (u 2 (by omega)) (u 3 (by omega)) (u 4 (by omega))
end Go.Proofs.YtgbpekeoegfjpaaGreatDoor
set_option maxRecDepth 100000
namespace Go.Proofs.YtgbpekeoegfjpaaGreatDoor
open Go.RowKit
attribute [-go_sem] run_equalIn_agg loadVar storeVar
attribute [local go_sem] lv_int lv_bool lv_u8 lv_string lv_strings
theorem seg_grown {α:Type}{enc:α->List Value}{size:Nat}{W W':World}{n b:Nat}{A:Option Addr}{l:List α}(h:Seg enc size W W.heap.size A l)(hF:From n A)(hg:W.grownBy W' (some b))(hb:b<n):Seg enc size W' W'.heap.size A l:=by
 rcases h with h|⟨b',off,rfl,hb',hc⟩
 ·exact .inl h
 ·have hn:n<=b':=hF _ rfl
  exact .inr ⟨b',off,rfl,by have:=hg.size;omega,fun k x hx j v hv=>(World.cell?_of_block (hg.block b' hb' (by simp;omega))).trans (hc k x hx j v hv)⟩
structure PW (w:World)(Al:Option Addr)(L:List ByteArray)(A1 A2 A3 A4:Option Addr)(c1 c2 c3 c4:Nat)(f:Pl.Fld)(W:World):Prop where
 kr:W.heap[w.heap.size]?=some (.cells #[.slice none 0 0,.slice none 0 0,.slice none 0 0,.slice none 0 0] 28 (0,0))
 ke:W.heap[w.heap.size+1]?=some (.cells (i2 0 0) 31 (0,0))
 kf:W.heap[w.heap.size+2]?=some (.cells (fq A1 A2 A3 A4 c1 c2 c3 c4 f) 28 (0,0))
 fs:FldS W W.heap.size A1 A2 A3 A4 f
 cp:Caps c1 c2 c3 c4 f
 f1:From (w.heap.size+3) A1
 f2:From (w.heap.size+3) A2
 f3:From (w.heap.size+3) A3
 f4:From (w.heap.size+3) A4
 ln:Nms W W.heap.size Al L
 fl:From (w.heap.size+3) Al
 all:Below w.heap.size w W
section
variable {w : World} {Al : Option Addr} {L : List ByteArray} {A1 A2 A3 A4 : Option Addr} {c1 c2 c3 c4 : Nat} {f : Pl.Fld} {W W' : World}
theorem PW.upB (h:PW w Al L A1 A2 A3 A4 c1 c2 c3 c4 f W)(hx:Below W.heap.size W W'):PW w Al L A1 A2 A3 A4 c1 c2 c3 c4 f W':=
 ⟨(hx.block _ (lO h.kr)).trans h.kr,(hx.block _ (lO h.ke)).trans h.ke,(hx.block _ (lO h.kf)).trans h.kf,h.fs.up hx,h.cp,h.f1,h.f2,h.f3,h.f4,h.ln.up hx,h.fl,h.all.trans (hx.mono h.all.size)⟩
theorem PW.put (h:PW w Al L A1 A2 A3 A4 c1 c2 c3 c4 f W){B1 B2 B3 B4:Option Addr}{d1 d2 d3 d4:Nat}{g:Pl.Fld}(hs:FldS W W.heap.size B1 B2 B3 B4 g)(hc:Caps d1 d2 d3 d4 g)(g1:From (w.heap.size+3) B1)(g2:From (w.heap.size+3) B2)(g3:From (w.heap.size+3) B3)(g4:From (w.heap.size+3) B4):
  ∃W',(storeVar 28 ⟨w.heap.size+2,0,none⟩ (.agg (fq B1 B2 B3 B4 d1 d2 d3 d4 g))).run Tryz.prog W=.ok () W'∧PW w Al L B1 B2 B3 B4 d1 d2 d3 d4 g W':=by
 obtain⟨W',st,k,hg⟩:=st_row W (w.heap.size+2) 28 28 _ (fq B1 B2 B3 B4 d1 d2 d3 d4 g) h.kf info_fld rfl (by simp[Value.oneCell'])
 exact⟨W',st,(hg.block _ (lO h.kr) (by simp)).trans h.kr,(hg.block _ (lO h.ke) (by simp)).trans h.ke,k,⟨seg_grown hs.st g1 hg (by omega),seg_grown hs.li g2 hg (by omega),seg_grown hs.pa g3 hg (by omega),seg_grown hs.va g4 hg (by omega)⟩,hc,g1,g2,g3,g4,seg_grown h.ln h.fl hg (by omega),h.fl,h.all.grown hg h.all.size (fun j e=>by cases e;omega)⟩
theorem PW.ret (h:PW w Al L A1 A2 A3 A4 c1 c2 c3 c4 f W){B1 B2 B3 B4:Option Addr}{d1 d2 d3 d4:Nat}{g:Pl.Fld}(E n:Int)(hs:FldS W W.heap.size B1 B2 B3 B4 g)(hc:Caps d1 d2 d3 d4 g)(g1:From (w.heap.size+3) B1)(g2:From (w.heap.size+3) B2)(g3:From (w.heap.size+3) B3)(g4:From (w.heap.size+3) B4):
  ∃W3 W4,(storeVar 28 ⟨w.heap.size,0,none⟩ (.agg (fq B1 B2 B3 B4 d1 d2 d3 d4 g))).run Tryz.prog W=.ok () W3∧
   (storeVar 31 ⟨w.heap.size+1,0,none⟩ (.agg (i2 E n))).run Tryz.prog W3=.ok () W4∧
   (loadVar 28 ⟨w.heap.size,0,none⟩).run Tryz.prog W4=.ok (.agg (fq B1 B2 B3 B4 d1 d2 d3 d4 g)) W4∧
   (loadVar 31 ⟨w.heap.size+1,0,none⟩).run Tryz.prog W4=.ok (.agg (i2 E n)) W4∧
   RetF (g,E,n) w (.returned (.tuple #[.agg (fq B1 B2 B3 B4 d1 d2 d3 d4 g),.agg (i2 E n)])) W4:=by
 obtain⟨W3,st3,k3,hg3⟩:=st_row W w.heap.size 28 28 _ (fq B1 B2 B3 B4 d1 d2 d3 d4 g) h.kr info_fld rfl (by simp[Value.oneCell'])
 have ke:=(hg3.block _ (lO h.ke) (by simp)).trans h.ke
 obtain⟨W4,st4,k4,hg4⟩:=st_row W3 (w.heap.size+1) 31 31 _ (i2 E n) ke info_flt rfl (by simp[Value.oneCell'])
 have k3':=(hg4.block _ (lO k3) (by simp)).trans k3
 have hs3:FldS W3 W3.heap.size B1 B2 B3 B4 g:=⟨seg_grown hs.st g1 hg3 (by omega),seg_grown hs.li g2 hg3 (by omega),seg_grown hs.pa g3 hg3 (by omega),seg_grown hs.va g4 hg3 (by omega)⟩
 have h3:=h.all.grown hg3 h.all.size (fun j e=>by cases e;omega)
 exact⟨W3,W4,st3,st4,ld_row k3' Tryz.underlying28 rfl info_fld,ld_row k4 Tryz.underlying31 rfl info_flt,B1,d1,B2,d2,B3,d3,B4,d4,rfl,⟨seg_grown hs3.st g1 hg4 (by omega),seg_grown hs3.li g2 hg4 (by omega),seg_grown hs3.pa g3 hg4 (by omega),seg_grown hs3.va g4 hg4 (by omega)⟩,hc,h3.grown hg4 h3.size (fun j e=>by cases e;omega)⟩
end
theorem from_none (n:Nat):From n none:=fun a h=>by cases h
theorem PW.ret0 {w:World}{Al:Option Addr}{L:List ByteArray}{A1 A2 A3 A4:Option Addr}{c1 c2 c3 c4:Nat}{f:Pl.Fld}{W:World}(h:PW w Al L A1 A2 A3 A4 c1 c2 c3 c4 f W)(E n:Int):
  ∃W3 W4,(storeVar 28 ⟨w.heap.size,0,none⟩ (.agg #[.slice none 0 0,.slice none 0 0,.slice none 0 0,.slice none 0 0])).run Tryz.prog W=.ok () W3∧
   (storeVar 31 ⟨w.heap.size+1,0,none⟩ (.agg (i2 E n))).run Tryz.prog W3=.ok () W4∧
   (loadVar 28 ⟨w.heap.size,0,none⟩).run Tryz.prog W4=.ok (.agg #[.slice none 0 0,.slice none 0 0,.slice none 0 0,.slice none 0 0]) W4∧
   (loadVar 31 ⟨w.heap.size+1,0,none⟩).run Tryz.prog W4=.ok (.agg (i2 E n)) W4∧
   RetF (Pl.Fld.none,E,n) w (.returned (.tuple #[.agg #[.slice none 0 0,.slice none 0 0,.slice none 0 0,.slice none 0 0],.agg (i2 E n)])) W4:=
 h.ret (g:=Pl.Fld.none) (d1:=0) (d2:=0) (d3:=0) (d4:=0) E n (fldS_none _ _) caps_none (from_none _) (from_none _) (from_none _) (from_none _)
set_option maxHeartbeats 4000000 in
theorem parseFieldB_long (src:ByteArray)(w:World)(h:20000<src.size)(hm:src.size<=1000000):Calls Tryz.prog 20 #[.string src] w (RetF (Pl.parseField src) w):=by
 have hp:Pl.parseField src=(Pl.Fld.none,2,0):=by unfold Pl.parseField;rw[if_pos h]
 have HP:=Lib.hid hp
 have g1:(20000:Int)<(src.size:Int):=by omega
 have k1:=heap_alloc2_old w (.cells #[.slice none 0 0,.slice none 0 0,.slice none 0 0,.slice none 0 0] 28) (.cells (i2 0 0) 31)
 have k2:=heap_alloc2_new w (.cells #[.slice none 0 0,.slice none 0 0,.slice none 0 0,.slice none 0 0] 28) (.cells (i2 0 0) 31)
 have hb:Below w.heap.size w ((w.alloc (.cells #[.slice none 0 0,.slice none 0 0,.slice none 0 0,.slice none 0 0] 28)).alloc (.cells (i2 0 0) 31)):=((Below.refl _ w).alloc (Nat.le_refl _) _).alloc (by simp) _
 obtain⟨W3,st3,k3,hg3⟩:=st_row _ w.heap.size 28 28 _ #[.slice none 0 0,.slice none 0 0,.slice none 0 0,.slice none 0 0] k1 info_fld rfl (by simp[Value.oneCell'])
 have ke:=(hg3.block _ (lO k2) (by simp)).trans k2
 obtain⟨W4,st4,k4,hg4⟩:=st_row W3 (w.heap.size+1) 31 31 _ (i2 2 0) ke info_flt rfl (by simp[Value.oneCell'])
 have k3':=(hg4.block _ (lO k3) (by simp)).trans k3
 have l3:=ld_row k3' Tryz.underlying28 rfl info_fld
 have l4:=ld_row k4 Tryz.underlying31 rfl info_flt
 have h3:=hb.grown hg3 hb.size (fun j e=>by cases e;omega)
 have h4:=h3.grown hg4 h3.size (fun j e=>by cases e;omega)
 clear hp h
 go_enter Tryz.func20,Tryz.ntmps20
 go_wp2
 rw[HP.out]
 refine bodyPost_ret (v:=.tuple #[.agg #[.slice none 0 0,.slice none 0 0,.slice none 0 0,.slice none 0 0],.agg (i2 2 0)]) (by simp[results,Tryz.results20,go_sem,l3,l4]) rfl ⟨none,0,none,0,none,0,none,0,rfl,fldS_none _ _,caps_none,h4⟩
set_option maxHeartbeats 32000000 in
theorem parseFieldB_a (src:ByteArray)(w:World)(hs:src.size<=20000):Calls Tryz.prog 20 #[.string src] w (RetF (Pl.parseField src) w):=by
 have hp:Pl.parseField src=Pl.fieldGo Pl.Fld.none 0 ((Pl.linesB src).map Pl.wordsB):=by unfold Pl.parseField;rw[if_neg (by omega)]
 have HP:=Lib.hid hp
 have g1: ¬(20000:Int)<(src.size:Int):=by omega
 have hlt:Pl.tot (Pl.linesB src)<=20001:=by rw[Pl.lines_tot];omega
 have hll:=Pl.tot_len (Pl.linesB src)
 clear hp
 obtain⟨W0,hW0⟩: ∃W,(((w.alloc (.cells #[.slice none 0 0,.slice none 0 0,.slice none 0 0,.slice none 0 0] 28)).alloc (.cells (i2 0 0) 31)).alloc (.cells #[.slice none 0 0,.slice none 0 0,.slice none 0 0,.slice none 0 0] 28))=W:=⟨_,rfl⟩
 have k0:=heap_alloc_new w (.cells #[.slice none 0 0,.slice none 0 0,.slice none 0 0,.slice none 0 0] 28)
 have k1:=heap_alloc_new (w.alloc (.cells #[.slice none 0 0,.slice none 0 0,.slice none 0 0,.slice none 0 0] 28)) (.cells (i2 0 0) 31)
 have k2:=heap_alloc_new ((w.alloc (.cells #[.slice none 0 0,.slice none 0 0,.slice none 0 0,.slice none 0 0] 28)).alloc (.cells (i2 0 0) 31)) (.cells #[.slice none 0 0,.slice none 0 0,.slice none 0 0,.slice none 0 0] 28)
 simp only[World.size_alloc,Nat.add_assoc,Nat.reduceAdd]at k1 k2
 have q0:=(Below.heap_alloc _ (.cells #[.slice none 0 0,.slice none 0 0,.slice none 0 0,.slice none 0 0] 28) _ (by first|(simp;done)|(simp;omega))).trans ((Below.heap_alloc _ (.cells (i2 0 0) 31) _ (lO k0)).trans k0)
 have q1:=(Below.heap_alloc _ (.cells #[.slice none 0 0,.slice none 0 0,.slice none 0 0,.slice none 0 0] 28) _ (lO k1)).trans k1
 have hb0:Below w.heap.size w W0:=by rw[<-hW0];exact(((Below.refl _ w).alloc (Nat.le_refl _) _).alloc (by simp) _).alloc (by first|(simp;done)|(simp;omega)) _
 rw[hW0]at q0 q1 k2
 obtain⟨W1,st1,k3,hg1⟩:=st_row W0 (w.heap.size+1+1) 28 28 #[.slice none 0 0,.slice none 0 0,.slice none 0 0,.slice none 0 0] #[.slice none 0 0,.slice none 0 0,.slice none 0 0,.slice none 0 0] k2 info_fld rfl (by simp[Value.oneCell'])
 have hb1:=hb0.grown hg1 hb0.size (fun j e=>by cases e;omega)
 have q2:=(hg1.block _ (lO q0) (by simp;omega)).trans q0
 have q3:=(hg1.block _ (lO q1) (by simp)).trans q1
 go_enter Tryz.func20,Tryz.ntmps20
 go_wp2_with fail
 refine(lines3_b src _ (by omega)).mono ?_
 rintro e W2 ⟨Al,cl,rfl,hN,hcl,hF,hx⟩
 have H:PW w Al (Pl.linesB src) none none none none 0 0 0 0 Pl.Fld.none W2:=⟨kE hx q2,kE hx q3,kE hx k3,fldS_none _ _,caps_none,from_none _,from_none _,from_none _,from_none _,hN,fun a e=>Nat.le_trans (lO k3) (hF a e),hb1.trans (hx.mono hb1.size)⟩
 clear k0 k1 k2 k3 q0 q1 q2 q3 hb0 hb1 hN hF hx hg1 st1 hW0
 try simp only[Nat.add_assoc,Nat.reduceAdd]
 go_wp2_with fail
 obtain⟨R,hR⟩: ∃R,Pl.parseField src=R:=⟨_,rfl⟩
 have HRR:=Lib.hid hR
 rw[hR]at HP
 clear hR
 go_loopw [6] (fun i wr=> ∃(k:Nat),k<=(Pl.linesB src).length∧i=.int .i64 k∧ ∃A1 A2 A3 A4 c1 c2 c3 c4 f,PW w Al (Pl.linesB src) A1 A2 A3 A4 c1 c2 c3 c4 f wr∧f.nm∧f.le k∧Hid (R=Pl.fieldGo f k (((Pl.linesB src).drop k).map Pl.wordsB))) (fun i _=>(Pl.linesB src).length-(intOf i).toNat)
 case atStart=>exact⟨0,by omega,rfl,none,none,none,none,0,0,0,0,Pl.Fld.none,H,Pl.none_nm,Pl.none_le,HP⟩
 case round=>
  clear H HP
  obtain⟨k,hk,rfl,A1,A2,A3,A4,c1,c2,c3,c4,f,H,hnm,hle,HR⟩:=hrel
  have hle':=hle.more (show k<=100000 by omega)
  have hm:Small f:=⟨hle'.1,hle'.2.1,hle'.2.2.1,hle'.2.2.2,hnm.1,hnm.2.1,hnm.2.2⟩
  by_cases hlt:k<(Pl.linesB src).length
  ·have e1:(0:Int)<=(k:Int):=by omega
   have e2:(k:Int)<((Pl.linesB src).length:Int):=by omega
   obtain⟨bl,ol,hA,_,ul⟩:=Nms.at1 H.ln hlt
   subst hA
   have hsz:=Pl.tot_mem (List.getElem_mem hlt)
   have hd:(Pl.linesB src).drop k=(Pl.linesB src)[k]::(Pl.linesB src).drop (k+1):=List.drop_eq_getElem_cons hlt
   rw[hd,List.map_cons]at HR
   clear hd
   obtain⟨s,hsd⟩: ∃s,(Pl.linesB src)[k]=s:=⟨_,rfl⟩
   rw[hsd]at ul hsz HR
   clear hsd
   go_wp2_with fail
   refine(words3_b s _ (by omega)).mono ?_
   rintro e W3 ⟨Aw,cw,rfl,hNw,hcw,_,hx⟩
   replace H:=H.upB hx
   clear hx ul
   have htw:Pl.tot (Pl.wordsB s)<=100000:=by have:=Pl.words_tot s;omega
   obtain⟨ws,hws⟩: ∃ws,Pl.wordsB s=ws:=⟨_,rfl⟩
   rw[hws]at hNw hcw htw HR ⊢
   clear hws
   by_cases hw0:ws=[]
   ·subst hw0
    have HR2:Hid (R=Pl.fieldGo f (k+1) (((Pl.linesB src).drop (k+1)).map Pl.wordsB)):=Lib.hid (by rw[HR.out];rfl)
    clear HR
    go_wp2_with fail
    go_roundw
    case rel=>exact⟨k+1,by omega,by go_num,A1,A2,A3,A4,c1,c2,c3,c4,f,H,hnm,hle.more (by omega),HR2⟩
    case measure=>first|(simp[intOf];done)|(simp[intOf];omega)
   ·have hne:((ws.length:Int)==0)=false:=by
     have:=List.length_pos_iff.2 hw0
     simp;omega
    obtain⟨b,off,rfl,hit⟩:=itemB_a Aw cw ws W3 hNw hcw htw hw0
    go_wp2_with fail
    refine hit.mono ?_
    clear hit hne
    rintro e W4 ⟨X,rfl,hX5,hX1,hXe,hx⟩
    replace H:=H.upB hx
    have hNw:=hNw.up hx
    clear hx
    have h43:=lO H.kf
    have kn:=heap_alloc_new W4 (.cells #[.string ⟨#[]⟩,.string ⟨#[]⟩,.slice none 0 0,.int .i64 0,.int .i64 0] 106)
    obtain⟨W5,st5,k5,hg5⟩:=st_row (W4.alloc (.cells #[.string ⟨#[]⟩,.string ⟨#[]⟩,.slice none 0 0,.int .i64 0,.int .i64 0] 106)) W4.heap.size 106 106 #[.string ⟨#[]⟩,.string ⟨#[]⟩,.slice none 0 0,.int .i64 0,.int .i64 0] X kn (by rw[hX5];exact info_itm) (by rw[hX5];rfl) hX1
    have hb45:Below W4.heap.size W4 W5:=((Below.refl _ W4).alloc (Nat.le_refl _) _).grown hg5 (by simp) (fun j e=>by cases e;exact Nat.le_refl _)
    replace H:=H.upB hb45
    have hNw:=hNw.up hb45
    have h53:=lO H.kf
    have e3:IntKind.i64.wrap ((k:Int)+1)=(k:Int)+1:=IntWalk.i64_in _ (by omega)
    clear hb45 hg5 kn hX1
    cases hi:Pl.item ws with
    |none=>
     have HV:Hid (R=(Pl.Fld.none,4,(k:Int)+1)):=Lib.hid (by rw[HR.out];unfold Pl.fieldGo;rw[if_neg hw0];unfold Pl.fieldLine;rw[hi])
     clear HR hXe hNw k5
     dsimp only[Option.isSome]
     obtain⟨W8,W9,st8,st9,l8,l9,hR⟩:=H.ret0 (4) ((k:Int)+1)
     go_wp2_with fail
     refine bodyPost_ret (v:=.tuple #[.agg #[.slice none 0 0,.slice none 0 0,.slice none 0 0,.slice none 0 0],.agg (i2 (4) ((k:Int)+1))]) (by simp[results,Tryz.results20,go_sem,l8,l9]) rfl ?_
     rw[HRR.out,HV.out]
     exact hR
    | some it=>
     obtain rfl:=hXe it hi
     have l5:=ld_row k5 Tryz.underlying106 rfl (by rw[hX5];exact info_itm)
     have lf:=ld_row H.kf Tryz.underlying28 rfl info_fld
     have had:=addedB_a A1 A2 A3 A4 c1 c2 c3 c4 f b off cw ws it W5 hNw hi H.fs hm H.cp
     have HL:Hid (Pl.fieldLine f ws=Pl.added f it):=Lib.hid (by unfold Pl.fieldLine;rw[hi])
     clear hXe k5 hi hNw
     dsimp only[Option.isSome]
     go_wp2_with fail
     refine had.mono ?_
     clear had l5 lf st5
     rintro e W6 ⟨B1,B2,B3,B4,d1,d2,d3,d4,g,E,rfl,hr,hfs,hcp,hfr,hx⟩
     obtain⟨g1,g2,g3,g4⟩:=hfr (w.heap.size+3) h53 H.f1 H.f2 H.f3 H.f4
     replace H:=H.upB hx
     clear hx hfr
     have kn:=heap_alloc_new W6 (.cells #[.slice none 0 0,.slice none 0 0,.slice none 0 0,.slice none 0 0] 28)
     obtain⟨W7,st7,k7,hg7⟩:=st_row (W6.alloc (.cells #[.slice none 0 0,.slice none 0 0,.slice none 0 0,.slice none 0 0] 28)) W6.heap.size 28 28 #[.slice none 0 0,.slice none 0 0,.slice none 0 0,.slice none 0 0] (fq B1 B2 B3 B4 d1 d2 d3 d4 g) kn info_fld rfl (by simp[Value.oneCell'])
     have hb67:Below W6.heap.size W6 W7:=((Below.refl _ W6).alloc (Nat.le_refl _) _).grown hg7 (by simp) (fun j e=>by cases e;exact Nat.le_refl _)
     replace H:=H.upB hb67
     have hfs:=hfs.up hb67
     have l7:=ld_row k7 Tryz.underlying28 rfl info_fld
     clear hb67 hg7 kn k7
     rcases hr with ⟨hok,rfl⟩|⟨herr,hE0⟩
     ·have hfl:Pl.fieldLine f ws=.ok g:=by rw[HL.out,hok]
      have HR2:Hid (R=Pl.fieldGo g (k+1) (((Pl.linesB src).drop (k+1)).map Pl.wordsB)):=Lib.hid (by rw[HR.out];conv=>lhs;unfold Pl.fieldGo;rw[if_neg hw0,hfl])
      have hnm2:=Pl.line_nm hnm hfl
      have hle2:=Pl.added_le hle hok
      obtain⟨W8,st8,H8⟩:=H.put hfs hcp g1 g2 g3 g4
      clear HR HL hok hfl H hfs
      go_wp2_with fail
      go_roundw
      case rel=>exact⟨k+1,by omega,by go_num,B1,B2,B3,B4,d1,d2,d3,d4,g,H8,hnm2,hle2,HR2⟩
      case measure=>first|(simp[intOf];done)|(simp[intOf];omega)
     ·have HV:Hid (R=(Pl.Fld.none,E,(k:Int)+1)):=Lib.hid (by rw[HR.out];unfold Pl.fieldGo;rw[if_neg hw0,HL.out,herr])
      have hEn:(E !=0)=true:=by simpa using hE0
      clear HR HL herr hfs hE0
      obtain⟨W8,W9,st8,st9,l8,l9,hR⟩:=H.ret0 (E) ((k:Int)+1)
      go_wp2_with fail
      refine bodyPost_ret (v:=.tuple #[.agg #[.slice none 0 0,.slice none 0 0,.slice none 0 0,.slice none 0 0],.agg (i2 (E) ((k:Int)+1))]) (by simp[results,Tryz.results20,go_sem,l8,l9]) rfl ?_
      rw[HRR.out,HV.out]
      exact hR
  ·obtain rfl:k=(Pl.linesB src).length:=by omega
   rw[List.drop_length]at HR
   obtain⟨E,hE⟩: ∃E,Pl.fieldE f=E:=⟨_,rfl⟩
   have lf:=ld_row H.kf Tryz.underlying28 rfl info_fld
   have hck:=checkFieldB_h A1 A2 A3 A4 c1 c2 c3 c4 f E wr (Lib.hid hE) H.fs hm H.cp
   have HR3:Hid (R=if E=0 then (f,0,0)else (Pl.Fld.none,E,0)):=Lib.hid (by rw[HR.out];show(if Pl.fieldE f=0 then (f,0,0)else (Pl.Fld.none,Pl.fieldE f,0))=_;rw[hE])
   clear HR hE
   go_wp2_with fail
   refine hck.mono ?_
   clear hck lf
   rintro e W3 ⟨rfl,hx⟩
   replace H:=H.upB hx
   clear hx
   by_cases hE0:E=0
   ·subst hE0
    have HV:Hid (R=(f,0,0)):=Lib.hid (by rw[HR3.out];rfl)
    clear HR3
    have lf:=ld_row H.kf Tryz.underlying28 rfl info_fld
    obtain⟨W8,W9,st8,st9,l8,l9,hR⟩:=H.ret (0) (0) H.fs H.cp H.f1 H.f2 H.f3 H.f4
    go_wp2_with fail
    refine bodyPost_ret (v:=.tuple #[.agg (fq A1 A2 A3 A4 c1 c2 c3 c4 f),.agg (i2 (0) (0))]) (by simp[results,Tryz.results20,go_sem,l8,l9]) rfl ?_
    rw[HRR.out,HV.out]
    exact hR
   ·have HV:Hid (R=(Pl.Fld.none,E,0)):=Lib.hid (by rw[HR3.out,if_neg hE0])
    have hEn:(E !=0)=true:=by simpa using hE0
    clear HR3 hE0
    obtain⟨W8,W9,st8,st9,l8,l9,hR⟩:=H.ret0 (E) (0)
    go_wp2_with fail
    refine bodyPost_ret (v:=.tuple #[.agg #[.slice none 0 0,.slice none 0 0,.slice none 0 0,.slice none 0 0],.agg (i2 (E) (0))]) (by simp[results,Tryz.results20,go_sem,l8,l9]) rfl ?_
    rw[HRR.out,HV.out]
    exact hR
end Go.Proofs.YtgbpekeoegfjpaaGreatDoor
set_option maxRecDepth 100000
namespace Go.Proofs.YtgbpekeoegfjpaaGreatDoor
open Go.RowKit
attribute [-go_sem] storeVar loadVar
attribute [local go_sem] lv_int lv_bool lv_u8 lv_string lv_errno
theorem Pl.run_line: ∀(l:List (List ByteArray)) (f:Pl.Fld) (n:Nat) (p:Int×Nat),Pl.fieldRun f n l=.error p->1<=p.2
 | [],f,n,p,h=>by cases h
 | w::l,f,n,p,h=>by
  by_cases hw:w=[]
  ·rw[Pl.run_blank hw]at h
   exact Pl.run_line l f (n+1) p h
  ·cases hf:Pl.fieldLine f w with
   |ok g=>
    rw[Pl.run_ok hw hf]at h
    exact Pl.run_line l g (n+1) p h
   |error e=>
    rw[Pl.run_err hw hf]at h
    cases h
    exact Nat.le_add_left _ _
theorem Pl.parse_spec (s:ByteArray)(hs:s.size<=90000):Small (Pl.parseField s).1∧((Pl.parseField s).2.1=0->(Pl.parseField s).2.2=0->Pl.fieldE (Pl.parseField s).1=0):=by
 have h0:Small Pl.Fld.none:=⟨by simp[Pl.Fld.none],by simp[Pl.Fld.none],by simp[Pl.Fld.none],by simp[Pl.Fld.none],Pl.none_nm.1,Pl.none_nm.2.1,Pl.none_nm.2.2⟩
 unfold Pl.parseField
 by_cases h:20000<s.size
 ·rw[if_pos h]
  exact⟨h0,fun h1 _=>absurd h1 (by decide)⟩
 ·rw[if_neg h,Pl.fieldGo_run]
  cases hr:Pl.fieldRun Pl.Fld.none 0 ((Pl.linesB s).map Pl.wordsB)with
  |error p=>exact⟨h0,fun _ h2=>by have:=Pl.run_line _ _ _ _ hr;have h2:(p.2:Int)=0:=h2;omega⟩
  | ok f=>
   have hlen:((Pl.linesB s).map Pl.wordsB).length<=100000:=by have:=Pl.tot_len (Pl.linesB s);rw[Pl.lines_tot]at this;rw[List.length_map];omega
   obtain⟨hn,hl⟩:=Pl.run_small _ _ _ _ _ Pl.none_nm Pl.none_le hr
   have hl:=hl.more (show 0+((Pl.linesB s).map Pl.wordsB).length<=100000 by omega)
   have hS:Small f:=⟨hl.1,hl.2.1,hl.2.2.1,hl.2.2.2,hn.1,hn.2.1,hn.2.2⟩
   simp only
   split
   ·rename_i hE
    exact⟨hS,fun _ _=>hE⟩
   ·rename_i hE
    exact⟨h0,fun h1 _=>absurd h1 hE⟩
set_option maxHeartbeats 4000000 in
theorem sources_long (src:ByteArray)(w:World)(hEn:Env w)(h:21000<src.size):
  Calls Tryz.prog 3 #[.string src] w fun e w'=>e=.returned (.bool true)∧Below w.heap.size w w':=by
 have g1:(21000:Int)<(src.size:Int):=by omega
 go_enter Tryz.func3,Tryz.ntmps3
 go_wp2_with fail
 refine(spoken_a _ hEn).mono ?_
 rintro e w1 ⟨rfl,hx⟩
 go_wp2_with fail
 go_ret
 exact⟨rfl,hx⟩
theorem two_box (W:World)(A1 A2 A3 A4:Option Addr)(c1 c2 c3 c4:Nat)(f:Pl.Fld)(E n:Int):
  ∃W1 W2,(storeVar 28 ⟨W.heap.size,0,none⟩ (.agg (fq A1 A2 A3 A4 c1 c2 c3 c4 f))).run Tryz.prog ((W.alloc (.cells #[.slice none 0 0,.slice none 0 0,.slice none 0 0,.slice none 0 0] 28)).alloc (.cells (i2 0 0) 31))=.ok () W1∧
   (storeVar 31 ⟨W.heap.size+1,0,none⟩ (.agg (i2 E n))).run Tryz.prog W1=.ok () W2∧
   W2.heap[W.heap.size]?=some (.cells (fq A1 A2 A3 A4 c1 c2 c3 c4 f) 28 (0,0))∧W2.heap[W.heap.size+1]?=some (.cells (i2 E n) 31 (0,0))∧Below W.heap.size W W2:=by
 have k1:=heap_alloc2_old W (.cells #[.slice none 0 0,.slice none 0 0,.slice none 0 0,.slice none 0 0] 28) (.cells (i2 0 0) 31)
 have k2:=heap_alloc2_new W (.cells #[.slice none 0 0,.slice none 0 0,.slice none 0 0,.slice none 0 0] 28) (.cells (i2 0 0) 31)
 have hb:Below W.heap.size W ((W.alloc (.cells #[.slice none 0 0,.slice none 0 0,.slice none 0 0,.slice none 0 0] 28)).alloc (.cells (i2 0 0) 31)):=((Below.refl _ W).alloc (Nat.le_refl _) _).alloc (by simp) _
 obtain⟨W1,st1,k3,hg1⟩:=st_row _ W.heap.size 28 28 _ (fq A1 A2 A3 A4 c1 c2 c3 c4 f) k1 info_fld rfl (by simp[Value.oneCell'])
 have ke:=(hg1.block _ (lO k2) (by simp)).trans k2
 obtain⟨W2,st2,k4,hg2⟩:=st_row W1 (W.heap.size+1) 31 31 _ (i2 E n) ke info_flt rfl (by simp[Value.oneCell'])
 have h3:=hb.grown hg1 hb.size (fun j e=>by cases e;omega)
 exact⟨W1,W2,st1,st2,(hg2.block _ (lO k3) (by simp)).trans k3,k4,h3.grown hg2 h3.size (fun j e=>by cases e;omega)⟩
set_option maxHeartbeats 16000000 in
theorem sources_w (src:ByteArray)(w:World)(hEn:Env w)(h:src.size<=21000):
  Calls Tryz.prog 3 #[.string src] w fun e w'=>e=.returned (.bool true)∧Below w.heap.size w w':=by
 have g1: ¬(21000:Int)<(src.size:Int):=by omega
 obtain⟨hsm,hok⟩:=Pl.parse_spec src (by omega)
 have p1:Calls Tryz.prog 19 #[.string src] w (RetF (Pl.parseField src) w):=by
  by_cases h2:src.size<=20000
  ·exact parseField_a src w hEn h2
  ·exact parseField_long src w (by omega) (by omega)
 have p2: ∀W,Calls Tryz.prog 20 #[.string src] W (RetF (Pl.parseField src) W):=fun W=>by
  by_cases h2:src.size<=20000
  ·exact parseFieldB_a src W h2
  ·exact parseFieldB_long src W (by omega) (by omega)
 obtain⟨r,hr⟩: ∃r,Pl.parseField src=r:=⟨_,rfl⟩
 rw[hr]at hsm hok p1 p2
 clear hr
 obtain⟨f,E,n⟩:=r
 dsimp only at hsm hok
 go_enter Tryz.func3,Tryz.ntmps3
 go_wp2_with fail
 refine p1.mono ?_
 clear p1
 rintro e w1 ⟨A1,c1,A2,c2,A3,c3,A4,c4,rfl,hf,hc,hx1⟩
 obtain⟨V1,V2,s1,s2,b1,b2,hy1⟩:=two_box w1 A1 A2 A3 A4 c1 c2 c3 c4 f E n
 dsimp only
 go_wp2_with fail
 refine(p2 _).mono ?_
 clear p2
 rintro e w2 ⟨B1,d1,B2,d2,B3,d3,B4,d4,rfl,hg,hd,hx2⟩
 obtain⟨V3,V4,s3,s4,b3,b4,hy2⟩:=two_box w2 B1 B2 B3 B4 d1 d2 d3 d4 f E n
 dsimp only
 have b1:=(kE hx2 b1)
 have b2:=(kE hx2 b2)
 have b1:=(kE hy2 b1)
 have b2:=(kE hy2 b2)
 have hf:=(hf.up hy1).up (hx2.trans (hy2.mono hx2.size))
 have hg:=hg.up hy2
 have hall:Below w.heap.size w V4:=(hx1.trans (hy1.mono hx1.size)).trans ((hx2.trans (hy2.mono hx2.size)).mono (hx1.trans (hy1.mono hx1.size)).size)
 clear hx1 hx2 hy1 hy2
 go_wp2_with fail
 refine(spoken_a _ (hEn.up hall)).mono ?_
 rintro e w3 ⟨rfl,hx⟩
 have b1:=kE hx b1
 have b2:=kE hx b2
 have b3:=kE hx b3
 have b4:=kE hx b4
 have hf:=hf.up hx
 have hg:=hg.up hx
 have hall:=hall.trans (hx.mono hall.size)
 have l1:=ld_row b1 Tryz.underlying28 rfl info_fld
 have l2:=ld_row b2 Tryz.underlying31 rfl info_flt
 have l3:=ld_row b3 Tryz.underlying28 rfl info_fld
 have l4:=ld_row b4 Tryz.underlying31 rfl info_flt
 clear hx s1 s2 s3 s4
 have sf:=sameField_a A1 A2 A3 A4 c1 c2 c3 c4 f B1 B2 B3 B4 d1 d2 d3 d4 w3 hf ⟨hsm.st,hsm.li,hsm.pa,hsm.va⟩ hg
 go_wp2_with fail
 refine sf.mono ?_
 rintro e w4 ⟨rfl,hx⟩
 have b1:=kE hx b1
 have b2:=kE hx b2
 have hf:=hf.up hx
 have hall:=hall.trans (hx.mono hall.size)
 clear l1 l2 l3 l4 sf hx
 have l1:=ld_row b1 Tryz.underlying28 rfl info_fld
 have l2:=ld_row b2 Tryz.underlying31 rfl info_flt
 by_cases h0:E=0
 ·subst h0
  by_cases h1:n=0
  ·subst h1
   have hE:=Lib.hid (hok rfl rfl)
   go_wp2_with fail
   refine(checkField_h A1 A2 A3 A4 c1 c2 c3 c4 f 0 w4 hE hf hsm hc).mono ?_
   rintro e w5 ⟨rfl,hx⟩
   go_wp2_with fail
   go_ret
   exact⟨by first|rfl|(simp;done),hall.trans (hx.mono hall.size)⟩
  ·have q:(n==0)=false:=by simpa using h1
   go_wp2_with fail
   go_ret
   exact⟨by first|rfl|(simp;done),hall⟩
 ·have q:(E==0)=false:=by simpa using h0
  go_wp2_with fail
  go_ret
  exact⟨by first|rfl|(simp;done),hall⟩
theorem deedSources_w (src:ByteArray)(w:World)(hEn:Env w)(_:src.size<=maxLen):
  Calls Tryz.prog 3 #[.string src] w fun e w'=>e=.returned (.bool true)∧Below w.heap.size w w':=by
 by_cases h:src.size<=21000
 ·exact sources_w src w hEn h
 ·exact sources_long src w hEn (by omega)
end Go.Proofs.YtgbpekeoegfjpaaGreatDoor
