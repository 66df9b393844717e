/- Part U10 of the proof: Ck Kq Kp. -/
import Derived.Test.YtcffonnijhhhiaaGreatDoorProg
import Derived.WalkKit
import Derived.WalkLawsBesides
import Derived.WalkSpells
import Derived.Handy
import Derived.Lib.Hide
import Derived.Great.BuildSlice
import Derived.Deep.QuietTactic
import Derived.BigQuiet
import Derived.Deep.RegionHeld3
import Derived.Deep.DeepCutAuto
import Derived.Test.YtcffonnijhhhiaaGreatDoorU07
import Derived.Test.YtcffonnijhhhiaaGreatDoorU01
set_option linter.all false
set_option linter.unusedSimpArgs false
set_option linter.unusedVariables false
set_option linter.unusedSectionVars false
namespace Go.Proofs.YtcffonnijhhhiaaGreatDoor
open Go Go.RowKit Mp
theorem within_a (n a b:Int)(w:World):Calls Tryz.prog 92 #[.int .i64 n,.int .i64 a,.int .i64 b] w fun e w'=>e=.returned (.bool (Rt.inR n a b))∧w=w':=by
 by_cases h:a≤n
 ·have HV:=Lib.hid (show Rt.inR n a b=decide (n≤b) by unfold Rt.inR;simp[h])
  have hd:=decide_eq_true h
  go_enter Tryz.func92,Tryz.ntmps92
  go_wp2
  go_ret
  exact⟨ret_bool HV.out.symm,rfl⟩
 ·have HV:=Lib.hid (show Rt.inR n a b=false by unfold Rt.inR;simp[h])
  have hd:=decide_eq_false h
  go_enter Tryz.func92,Tryz.ntmps92
  go_wp2
  go_ret
  exact⟨ret_bool HV.out.symm,rfl⟩
theorem named1_a (n:Int)(w:World):Calls Tryz.prog 213 (#[.int .i64 n]++ #[]) w fun e w'=>e=.returned (.bool (!Rt.isId n))∧Below w.heap.size w w':=by
 have HV:=Lib.hid (show(!Rt.inR n 1 1000000)= !Rt.isId n from rfl)
 go_enter Tryz.func213,Tryz.ntmps213
 go_wp2_with (go_at_call 92;refine(within_a _ _ _ _).mono ?_;rintro e w' ⟨rfl,rfl⟩)
 go_ret
 exact⟨ret_bool HV.out,Below.refl _ _⟩
theorem named_a (A:Option Addr)(c:Nat)(l:List Int)(w:World)(hl:Ints w w.heap.size A l)(hm:l.length≤1000000):
  Calls Tryz.prog 163 #[.slice A l.length c] w fun e w'=>e=.returned (.bool (l.all Rt.isId))∧Below w.heap.size w w':=by
 have hc:=conF_i A c l 213 #[] (fun n=> !Rt.isId n) w hl hm (fun _ _=>by kernel_rfl) (fun n _ W _=>named1_a n W)
 have HV:=Lib.hid (show(!(l.any fun n=> !Rt.isId n))=l.all Rt.isId by rw[List.any_eq_not_all_not];simp)
 go_enter Tryz.func163,Tryz.ntmps163
 go_wp2_with (go_at_call 165;refine hc.mono ?_;rintro e w' ⟨rfl,hx⟩)
 go_ret
 exact⟨ret_bool HV.out,hx⟩
theorem named_1 {w:World}{b:Nat}{n:Int}(hb:w.heap[b]?=some (.cells #[.int .i64 n] 3 (0,0))):
  Calls Tryz.prog 163 #[.slice (some ⟨b,0,none⟩) 1 1] w fun e w'=>e=.returned (.bool (Rt.isId n))∧Below w.heap.size w w':=by
 have:=named_a (some ⟨b,0,none⟩) 1 [n] w (ints1 hb) (by simp)
 simpa using this
theorem named_2 {w:World}{b:Nat}{n m:Int}(hb:w.heap[b]?=some (.cells #[.int .i64 n,.int .i64 m] 3 (0,0))):
  Calls Tryz.prog 163 #[.slice (some ⟨b,0,none⟩) 2 2] w fun e w'=>e=.returned (.bool (Rt.isId n&&Rt.isId m))∧Below w.heap.size w w':=by
 have:=named_a (some ⟨b,0,none⟩) 2 [n,m] w (ints2 hb) (by simp)
 simpa using this
theorem Ints.take {w:World}{B:Nat}{A:Option Addr}{l:List Int}(h:Ints w B A l)(k:Nat):Ints w B A (l.take k):=by
 rcases h with rfl|⟨b,off,hA,hb,hc⟩
 ·exact .inl (by simp)
 ·exact .inr ⟨b,off,hA,hb,fun j x hj i v hv=>hc j x (by
   rw[List.getElem?_take]at hj
   split at hj
   ·exact hj
   ·cases hj) i v hv⟩
theorem different_a (A:Option Addr)(c:Nat)(l:List Int)(w:World)(hl:Ints w w.heap.size A l)(hm:l.length≤1000000)(hcap:l.length≤c):
  Calls Tryz.prog 164 #[.slice A l.length c] w fun e w'=>e=.returned (.bool (Rt.lotsOk l))∧Below w.heap.size w w':=by
 go_enter Tryz.func164,Tryz.ntmps164
 go_wp2
 go_loopw [7] (fun i wr=> ∃k:Nat,k≤l.length∧i=.int .i64 k∧Hid ((∀n∈l.take k,Rt.isId n=true)∧(l.take k).Nodup)∧Below w.heap.size w wr) (fun i _=>l.length-(intOf i).toNat)
 case atStart=>exact⟨0,by omega,rfl,Lib.hid (by simp),Below.refl _ _⟩
 case round=>
  obtain⟨k,hk,rfl,hg,hb⟩:=hrel
  by_cases hlt:k<l.length
  ·obtain⟨b,off,rfl,hbB,q0⟩:=Ints.at1 (hl.below hb) hlt
   have hsz:=hb.size
   obtain⟨n,hn⟩: ∃n,l[k]=n:=⟨_,rfl⟩
   rw[hn]at q0
   have Hn:=Lib.hid hn
   clear hn
   have ka:=heap_alloc_new wr (.cells #[.int .i64 n] 3)
   have b1:Below w.heap.size w (wr.alloc (.cells #[.int .i64 n] 3)):=hb.alloc hsz _
   have hnm:=named_1 ka
   cases hid:Rt.isId n with
   |false=>
    rw[hid]at hnm
    have HV:=Lib.hid (show Rt.lotsOk l=false by
     rw[Bool.eq_false_iff]
     intro h
     have:=((Rt.lotsOk_iff.1 h).2.1 _ (List.getElem_mem hlt))
     rw[Hn.out]at this
     unfold Rt.isId at hid
     rw[Bool.eq_false_iff]at hid
     exact hid (Rt.inR_iff.2 this))
    clear hid
    go_wp2_with (go_at_call 163;refine hnm.mono ?_;rintro e w' ⟨rfl,hx⟩)
    go_ret
    exact⟨ret_bool HV.out.symm,b1.trans (hx.mono b1.size)⟩
   |true=>
    rw[hid]at hnm
    have HI:=Lib.hid hid
    clear hid
    go_wp2_with fail
    refine hnm.mono ?_
    rintro e w1 ⟨rfl,hx⟩
    have b2:=b1.trans (hx.mono b1.size)
    have hlen:(l.take k).length=k:=by simp;omega
    have hs:=hasI_a (some ⟨b,off,none⟩) k (l.take k) n w1 ((Ints.take (hl.below b2) k).more b2.size) (by omega)
    rw[hlen]at hs
    have hkc:(k:Int)≤(c:Int):=by omega
    cases hh:(l.take k).contains n with
    |true=>
     rw[hh]at hs
     have HV:=Lib.hid (show Rt.lotsOk l=false by
      rw[Bool.eq_false_iff]
      intro h
      have hnd:=(Rt.lotsOk_iff.1 h).2.2
      obtain⟨i,hi,e⟩:=List.getElem_of_mem (List.contains_iff_mem.1 hh)
      rw[List.getElem_take,←Hn.out]at e
      have hi2:i<k:=by omega
      exact absurd ((List.getElem_inj hnd).1 e) (by omega))
     clear hh
     go_wp2_with (go_at_call 53;refine hs.mono ?_;rintro e w' ⟨rfl,rfl⟩)
     go_ret
     exact⟨ret_bool HV.out.symm,b2⟩
    |false=>
     rw[hh]at hs
     have HV:=Lib.hid (show(∀n∈l.take (k+1),Rt.isId n=true)∧(l.take (k+1)).Nodup by
      rw[List.take_succ_eq_append_getElem hlt,Hn.out]
      refine⟨fun m hm=> ?_,?_⟩
      ·rcases List.mem_append.1 hm with hm|hm
       ·exact hg.out.1 m hm
       ·simp at hm
        rw[hm]
        exact HI.out
      ·rw[List.nodup_append]
       refine⟨hg.out.2,by simp,fun a ha y hy e=> ?_⟩
       simp at hy
       subst e hy
       have:=List.contains_iff_mem.2 ha
       rw[hh]at this
       cases this)
     clear hh
     go_wp2_with (go_at_call 53;refine hs.mono ?_;rintro e w' ⟨rfl,rfl⟩)
     go_roundw
     case rel=>exact⟨k+1,by omega,by go_num,HV,b2⟩
     case measure=>first|(simp[intOf];done)|(simp[intOf];omega)
  ·obtain rfl:k=l.length:=by omega
   have HV:=Lib.hid (show Rt.inR (l.length:Int) 2 10=Rt.lotsOk l by
    obtain⟨h1,h2⟩:=hg.out
    rw[List.take_of_length_le (Nat.le_refl _)]at h1 h2
    rw[Bool.eq_iff_iff,Rt.inR_iff,Rt.lotsOk_iff]
    exact⟨fun h=>⟨by omega,fun n hn=>Rt.inR_iff.1 (h1 n hn),h2⟩,fun h=>by omega⟩)
   go_wp2_with (go_at_call 92;refine(within_a _ _ _ _).mono ?_;rintro e w' ⟨rfl,rfl⟩)
   go_ret
   exact⟨ret_bool HV.out,hb⟩
set_option maxRecDepth 100000 in
theorem eqI_a (A B:Option Addr)(c d:Nat)(l m:List Int)(w:World)(hl:Ints w w.heap.size A l)(hm:Ints w w.heap.size B m)(h1:l.length≤1000000)(h2:m.length≤1000000):
  Calls Tryz.prog 41 #[.slice A l.length c,.slice B m.length d] w fun e w'=>e=.returned (.bool (decide (l=m)))∧Below w.heap.size w w':=by
 by_cases hne:l.length=m.length
 ·have HL:=Lib.hid hne
  have hq:((l.length:Int) !=(m.length:Int))=false:=by simp[hne]
  have hm3:(m.length:Int)=(l.length:Int):=by omega
  obtain⟨N,hN⟩: ∃N,m.length=N:=⟨_,rfl⟩
  have hNl:l.length=N:=hne.trans hN
  rw[hN,hNl]
  rw[hNl]at h1
  have HNl:=Lib.hid hNl
  have HN:=Lib.hid hN
  clear hq hm3 hne hN hNl h2
  go_enter Tryz.func41,Tryz.ntmps41
  go_wp2
  go_loopw [13] (fun i wr=> ∃k:Nat,k≤N∧i=.int .i64 k∧Hid (∀j (hj:j<l.length) (hj':j<m.length),j<k→l[j]=m[j])∧Below w.heap.size w wr) (fun i _=>N-(intOf i).toNat)
  case atStart=>exact⟨0,by omega,rfl,Lib.hid (fun j _ _ h=>by omega),Below.refl _ _⟩
  case round=>
   obtain⟨k,hk,rfl,hg,hb⟩:=hrel
   by_cases hlt:k<N
   ·obtain⟨W,hW⟩: ∃W:World,W=wr.drew:=⟨_,rfl⟩
    have b1:Below w.heap.size w W:=by rw[hW];exact below_drew hb
    have HW:=Lib.hid hW
    clear hW
    have hkl:k<l.length:=by have:=HNl.out;omega
    have hkm:k<m.length:=by have:=HN.out;omega
    obtain⟨bi,oi,ei,hbi,q1⟩:=Ints.at1 (hl.below b1) hkl
    obtain⟨bj,oj,ej,hbj,q2⟩:=Ints.at1 (hm.below b1) hkm
    subst ei ej
    obtain⟨x,hx⟩: ∃x,l[k]=x:=⟨_,rfl⟩
    obtain⟨y,hy⟩: ∃y,m[k]=y:=⟨_,rfl⟩
    rw[hx]at q1
    rw[hy]at q2
    have HX:=Lib.hid hx
    have HY:=Lib.hid hy
    clear hx hy
    by_cases hxy:x=y
    ·subst hxy
     go_wp2
     refine still_all HW.out (by kernel_rfl) (by kernel_rfl) ?_
     repeat still_step
     refine wpStill_nil ?_
     go_wp2
     go_roundw
     case rel=>exact⟨k+1,by omega,by go_num,Lib.hid (fun j hj hj' h=>by
      by_cases e:j=k
      ·subst e
       rw[HX.out,HY.out]
      ·exact hg.out j hj hj' (by omega)),b1⟩
     case measure=>first|(simp[intOf];done)|(simp[intOf];omega)
    ·have hq:(x !=y)=true:=by simpa using hxy
     have HV:=Lib.hid (show decide (l=m)=false by
      rw[decide_eq_false_iff_not]
      intro e
      subst e
      exact hxy (HX.out.symm.trans HY.out))
     clear hxy
     go_wp2
     refine still_all HW.out (by kernel_rfl) (by kernel_rfl) ?_
     repeat still_step
     refine wpStill_nil ?_
     go_wp2
     go_ret
     exact⟨ret_bool HV.out.symm,b1⟩
   ·obtain rfl:k=N:=by omega
    have HV:=Lib.hid (show decide (l=m)=true by
     rw[decide_eq_true_iff]
     exact List.ext_getElem HL.out (fun j hj hj'=>hg.out j hj hj' (by have:=HNl.out;omega)))
    go_wp2
    go_ret
    exact⟨ret_bool HV.out.symm,hb⟩
 ·have hq:((l.length:Int) !=(m.length:Int))=true:=bne_iff_ne.2 (by omega)
  have HV:=Lib.hid (show decide (l=m)=false by
   rw[decide_eq_false_iff_not]
   intro e
   exact hne (by rw[e]))
  clear hne
  go_enter Tryz.func41,Tryz.ntmps41
  go_wp2
  go_ret
  exact⟨ret_bool HV.out.symm,Below.refl _ _⟩
end Go.Proofs.YtcffonnijhhhiaaGreatDoor
namespace Go.Proofs.Rt
def sameD (a b:Deal):Bool:=a.id==b.id&&a.day==b.day&&a.kind==b.kind&&a.lot==b.lot&&a.other==b.other&&a.fr==b.fr&&a.to==b.to&&a.parts==b.parts&&a.size==b.size&&decide (a.into=b.into)&&decide (a.sizes=b.sizes)
def body (x:Deal):Bool:=
 isId x.lot&&
 match x.kind with
 |1=>only x false false true false true false false&&isId x.to&&inR x.size 1 10000000000
 |2=>only x false true true true false false false&&isId x.to&&isId x.fr&&x.fr !=x.to&&inR x.parts 1 5040
 | 3 => only x false false false false false true true && lotsOk x.into && x.sizes.length == x.into.length && x.sizes.all (inR · 1 10000000000)
 |4=>only x false false false false false true false&&lotsOk x.into
 |5=>only x true false false false false false false&&isId x.other&&x.other !=x.lot
 |6=>only x true false false false false false false&&isId x.other&&x.other !=x.lot
 |7=>only x false false true false true false false&&isId x.to&&inR x.size 1 1000
 |8=>only x false false true false false false false&&isId x.to
 |_=>false
theorem formed_eq (x:Deal):formed x=(isId x.id&&inR x.day 0 100000&&body x):=by
 unfold formed body
 simp only[Bool.and_assoc]
 rfl
def keep1 (x:Deal):Deal:= {x with other:=0,fr:=0,parts:=0,into:=[],sizes:=[]}
def keep2 (x:Deal):Deal:= {x with other:=0,size:=0,into:=[],sizes:=[]}
def keep3 (x:Deal):Deal:=⟨x.id,x.day,x.kind,x.lot,0,0,0,0,0,x.into,x.sizes⟩
def keep4 (x:Deal):Deal:=⟨x.id,x.day,x.kind,x.lot,0,0,0,0,0,x.into,[]⟩
def keep5 (x:Deal):Deal:=⟨x.id,x.day,x.kind,x.lot,x.other,0,0,0,0,[],[]⟩
def keep8 (x:Deal):Deal:= {x with other:=0,fr:=0,parts:=0,size:=0,into:=[],sizes:=[]}
def keep0 (x:Deal):Deal:=⟨x.id,x.day,x.kind,x.lot,0,0,0,0,0,[],[]⟩
section
variable {x : Deal}
theorem only1 :only x false false true false true false false=sameD x (keep1 x):=by
 unfold only sameD keep1
 rw[Bool.eq_iff_iff]
 simp[and_assoc]
theorem only2 :only x false true true true false false false=sameD x (keep2 x):=by
 unfold only sameD keep2
 rw[Bool.eq_iff_iff]
 simp[and_assoc]
theorem only3 :only x false false false false false true true=sameD x (keep3 x):=by
 unfold only sameD keep3
 rw[Bool.eq_iff_iff]
 simp[and_assoc]
theorem only4 :only x false false false false false true false=sameD x (keep4 x):=by
 unfold only sameD keep4
 rw[Bool.eq_iff_iff]
 simp[and_assoc]
theorem only5 :only x true false false false false false false=sameD x (keep5 x):=by
 unfold only sameD keep5
 rw[Bool.eq_iff_iff]
 simp[and_assoc]
theorem only8 :only x false false true false false false false=sameD x (keep8 x):=by
 unfold only sameD keep8
 rw[Bool.eq_iff_iff]
 simp[and_assoc]
end
end Go.Proofs.Rt
namespace Go.Proofs.YtcffonnijhhhiaaGreatDoor
open Go Go.RowKit Mp
structure DS (w:World)(B:Nat)(A1 A2:Option Addr)(x:Dl):Prop where
 into:Ints w B A1 x.into
 sizes:Ints w B A2 x.sizes
 li:x.into.length≤1000
 ls:x.sizes.length≤1000
theorem DS.up {w w':World}{A1 A2:Option Addr}{x:Dl}(h:DS w w.heap.size A1 A2 x)(hb:Below w.heap.size w w'):DS w' w'.heap.size A1 A2 x:=⟨h.into.up hb,h.sizes.up hb,h.li,h.ls⟩
abbrev zcs :Array Value:= #[.int .i64 0,.int .i64 0,.int .u8 0,.int .i64 0,.int .i64 0,.int .i64 0,.int .i64 0,.int .i64 0,.int .i64 0,.slice none 0 0,.slice none 0 0]
theorem body_none {x y:Dl}(h:x.kind=0∨8<x.kind):(false&&Rt.sameD x y)=Rt.body x:=by
 unfold Rt.body
 rcases h with h|h
 ·rw[h];cases Rt.isId x.lot<;>rfl
 ·match x.kind,h with
  |k+9,_=>cases Rt.isId x.lot<;>rfl
def EndKp (x:Dl)(w:World)(e:Ending)(w':World):Prop:= ∃(y:Dl) (B1 B2:Option Addr) (d1 d2:Nat) (fine:Bool),e=.returned (.tuple #[.agg (xcs y B1 B2 d1 d2),.bool fine])∧DS w' w'.heap.size B1 B2 y∧Below w.heap.size w w'∧(fine&&Rt.sameD x y)=Rt.body x
theorem info_deal : (Tryz.prog.info? 24).map (·.size) = some 11 := by kernel_rfl
theorem lk_int (a:Addr)(w:World):(loadVar 3 a).run Tryz.prog w=(load a).run Tryz.prog w:=lv_scalar Tryz.underlying3 rfl a w
theorem lk_u8 (a:Addr)(w:World):(loadVar 5 a).run Tryz.prog w=(load a).run Tryz.prog w:=lv_scalar Tryz.underlying5 rfl a w
theorem lk_ints (a:Addr)(w:World):(loadVar 22 a).run Tryz.prog w=(load a).run Tryz.prog w:=lv_scalar Tryz.underlying22 rfl a w
theorem st_int {w:World}{g j:Nat}{t:TypeId}{cs:Array Value}{n:Int}(hg:w.heap[g]?=some (.cells cs t (0,0)))(hj:j<cs.size):(storeVar 3 ⟨g,j,none⟩ (.int .i64 n)).run Tryz.prog w=.ok () (w.setCell ⟨g,j,none⟩ (.int .i64 n)):=by
 obtain⟨hc,hf⟩:=blk_cells hg
 have h1:=hc j
 rw[Array.getElem?_eq_getElem hj]at h1
 have h2:=hf j
 simp[go_sem,h1,h2]
theorem st_ints {w:World}{g j:Nat}{t:TypeId}{cs:Array Value}{A:Option Addr}{n c:Nat}(hg:w.heap[g]?=some (.cells cs t (0,0)))(hj:j<cs.size):(storeVar 22 ⟨g,j,none⟩ (.slice A n c)).run Tryz.prog w=.ok () (w.setCell ⟨g,j,none⟩ (.slice A n c)):=by
 obtain⟨hc,hf⟩:=blk_cells hg
 have h1:=hc j
 rw[Array.getElem?_eq_getElem hj]at h1
 have h2:=hf j
 simp[go_sem,h1,h2]
theorem kept1_a (n:Int)(w:World):Calls Tryz.prog 166 (#[.int .i64 n]++ #[]) w fun e w'=>e=.returned (.bool (!Rt.inR n 1 10000000000))∧Below w.heap.size w w':=by
 go_enter Tryz.func166,Tryz.ntmps166
 go_wp2_with (go_at_call 92;refine(within_a _ _ _ _).mono ?_;rintro e w' ⟨rfl,rfl⟩)
 go_ret
 exact⟨rfl,Below.refl _ _⟩
end Go.Proofs.YtcffonnijhhhiaaGreatDoor
