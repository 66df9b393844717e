/- Walks of the law DeedBlanks in one text: a line of deeds, ParseDeeds, SameField, SameDeeds, the law. -/
import Derived.Test.YtgbpekeoegfjpaaGreatDoorProg
import Derived.WalkKit
import Derived.WalkLawsBesides
import Derived.WalkSpells
import Derived.Handy
import Derived.Lib.Hide
import Derived.Great.BuildSlice
import Derived.Deep.QuietTactic
import Derived.BigQuiet
import Derived.Deep.RegionHeld3
import Derived.Deep.DeepCutAuto
import Derived.Test.YtgbpekeoegfjpaaGreatDoorZ24
import Derived.Test.YtgbpekeoegfjpaaGreatDoorZ00
import Derived.Lib.SplitLaws
import Derived.Test.YtgbpekeoegfjpaaGreatDoorZ03
import Derived.Lib.SlicesCompact
import Derived.Lib.Small
import Derived.Test.YtgbpekeoegfjpaaGreatDoorZ02
import Derived.Lib.Join
import Derived.Test.YtgbpekeoegfjpaaGreatDoorZ23
import Derived.Test.YtgbpekeoegfjpaaGreatDoorZ10
import Derived.Test.YtgbpekeoegfjpaaGreatDoorZ18
import Derived.Deep.MidRow
import Derived.Test.YtgbpekeoegfjpaaGreatDoorZ11
import Derived.Test.YtgbpekeoegfjpaaGreatDoorZ05
import Derived.Laws.Concat
set_option maxRecDepth 100000
namespace Go.Proofs.YtgbpekeoegfjpaaGreatDoor
open Go.RowKit
variable (A1 A2 A3 A4 : Option Addr) (c1 c2 c3 c4 : Nat) (f : Pl.Fld)
def Pl.vast (f:Pl.Fld):Bool:=(decide (20<f.st.length)||decide (20<f.li.length)||decide (60<f.pa.length)||decide (60<f.va.length))||(f.st.any (fun s=>decide (100<s.1.size))||f.li.any (fun s=>decide (100<s.size))||f.pa.any (fun p=>decide (100<p.name.size)))
set_option maxHeartbeats 2000000 in
theorem vast_many (w:World)(h:20<f.st.length∨20<f.li.length∨60<f.pa.length∨60<f.va.length):
  Calls Tryz.prog 23 #[.agg (fq A1 A2 A3 A4 c1 c2 c3 c4 f)] w fun e w'=>e=.returned (.bool (Pl.vast f))∧Below w.heap.size w w':=by
 have hv:Hid (Pl.vast f=true):=Lib.hid (by unfold Pl.vast;simp;omega)
 by_cases h1:20<f.st.length
 ·have e1:(20:Int)<(f.st.length:Int):=by omega
  go_enter Tryz.func23,Tryz.ntmps23
  go_wp2
  go_ret
  exact⟨ret_bool hv.out.symm,by go_grown⟩
 have n1: ¬(20:Int)<(f.st.length:Int):=by omega
 by_cases h2:20<f.li.length
 ·have e1:(20:Int)<(f.li.length:Int):=by omega
  go_enter Tryz.func23,Tryz.ntmps23
  go_wp2
  go_ret
  exact⟨ret_bool hv.out.symm,by go_grown⟩
 have n2: ¬(20:Int)<(f.li.length:Int):=by omega
 by_cases h3:60<f.pa.length
 ·have e1:(60:Int)<(f.pa.length:Int):=by omega
  go_enter Tryz.func23,Tryz.ntmps23
  go_wp2
  go_ret
  exact⟨ret_bool hv.out.symm,by go_grown⟩
 have n3: ¬(60:Int)<(f.pa.length:Int):=by omega
 ·have e1:(60:Int)<(f.va.length:Int):=by omega
  go_enter Tryz.func23,Tryz.ntmps23
  go_wp2
  go_ret
  exact⟨ret_bool hv.out.symm,by go_grown⟩
set_option maxHeartbeats 4000000 in
theorem vast_few (w:World) (hf:FldS w w.heap.size A1 A2 A3 A4 f) (h1:f.st.length<=20) (h2:f.li.length<=20) (h3:f.pa.length<=60) (h4:f.va.length<=60):
  Calls Tryz.prog 23 #[.agg (fq A1 A2 A3 A4 c1 c2 c3 c4 f)] w fun e w'=>e=.returned (.bool (Pl.vast f))∧Below w.heap.size w w':=by
 have n1: ¬(20:Int)<(f.st.length:Int):=by omega
 have n2: ¬(20:Int)<(f.li.length:Int):=by omega
 have n3: ¬(60:Int)<(f.pa.length:Int):=by omega
 have n4: ¬(60:Int)<(f.va.length:Int):=by omega
 have kb:=heap_alloc_new w (.cells (fq A1 A2 A3 A4 c1 c2 c3 c4 f) 28)
 have hall:Below w.heap.size w (w.alloc (.cells (fq A1 A2 A3 A4 c1 c2 c3 c4 f) 28)):=by go_grown
 go_enter Tryz.func23,Tryz.ntmps23
 go_wp2
 go_loopw [3] (fun p wr=> ∃k:Nat,k<=f.st.length∧p=.int .i64 k∧(∀s∈f.st.take k,s.1.size<=100)∧wr.heap[w.heap.size]?=some (.cells (fq A1 A2 A3 A4 c1 c2 c3 c4 f) 28 (0,0))∧Below w.heap.size w wr) (fun p _=>f.st.length-(intOf p).toNat)
 case atStart=>exact⟨0,by omega,rfl,by simp,kb,hall⟩
 clear kb hall
 case round=>
  obtain⟨k,hk,rfl,hs,kb,hb1⟩:=hrel
  obtain⟨hckb,hfkb⟩:=blk_cells kb
  by_cases hlt:k<f.st.length
  ·obtain⟨b,off,rfl,hbB,q0,q1⟩:=Stas.at2 (hf.st.below hb1) hlt
   by_cases hz:100<f.st[k].1.size
   ·have hv:Hid (Pl.vast f=true):=Lib.hid (by unfold Pl.vast;simp only[Bool.or_eq_true,List.any_eq_true,decide_eq_true_eq];exact .inr (.inl (.inl ⟨_,List.getElem_mem hlt,hz⟩)))
    go_wp2
    go_ret
    exact⟨ret_bool hv.out.symm,hb1⟩
   ·go_wp2
    go_roundw
    case rel=>exact⟨k+1,by omega,by go_num,by intro s hs';rw[List.take_succ_eq_append_getElem hlt,List.mem_append]at hs';rcases hs' with h|h;exact hs _ h;simp at h;subst h;omega,kb,hb1⟩
    case measure=>first|(simp[intOf];done)|(simp[intOf];omega)
  ·obtain rfl:k=f.st.length:=by omega
   go_wp2
   go_loopw [4] (fun p wr=> ∃k:Nat,k<=f.li.length∧p=.int .i64 k∧(∀s∈f.li.take k,s.size<=100)∧wr.heap[w.heap.size]?=some (.cells (fq A1 A2 A3 A4 c1 c2 c3 c4 f) 28 (0,0))∧Below w.heap.size w wr) (fun p _=>f.li.length-(intOf p).toNat)
   case atStart=>exact⟨0,by omega,rfl,by simp,kb,hb1⟩
   case round=>
    clear hckb hfkb kb hb1
    obtain⟨k,hk,rfl,hs2,kb,hb1⟩:=hrel
    obtain⟨hckb,hfkb⟩:=blk_cells kb
    by_cases hlt:k<f.li.length
    ·obtain⟨b,off,rfl,hbB,q0⟩:=Nms.at1 (hf.li.below hb1) hlt
     by_cases hz:100<f.li[k].size
     ·have hv:Hid (Pl.vast f=true):=Lib.hid (by unfold Pl.vast;simp only[Bool.or_eq_true,List.any_eq_true,decide_eq_true_eq];exact .inr (.inl (.inr ⟨_,List.getElem_mem hlt,hz⟩)))
      go_wp2
      go_ret
      exact⟨ret_bool hv.out.symm,hb1⟩
     ·go_wp2
      go_roundw
      case rel=>exact⟨k+1,by omega,by go_num,by intro s hs';rw[List.take_succ_eq_append_getElem hlt,List.mem_append]at hs';rcases hs' with h|h;exact hs2 _ h;simp at h;subst h;omega,kb,hb1⟩
      case measure=>first|(simp[intOf];done)|(simp[intOf];omega)
    ·obtain rfl:k=f.li.length:=by omega
     go_wp2
     go_loopw [5] (fun p wr=> ∃k:Nat,k<=f.pa.length∧p=.int .i64 k∧(∀s∈f.pa.take k,s.name.size<=100)∧wr.heap[w.heap.size]?=some (.cells (fq A1 A2 A3 A4 c1 c2 c3 c4 f) 28 (0,0))∧Below w.heap.size w wr) (fun p _=>f.pa.length-(intOf p).toNat)
     case atStart=>exact⟨0,by omega,rfl,by simp,kb,hb1⟩
     case round=>
      clear hckb hfkb kb hb1
      obtain⟨k,hk,rfl,hs3,kb,hb1⟩:=hrel
      obtain⟨hckb,hfkb⟩:=blk_cells kb
      by_cases hlt:k<f.pa.length
      ·obtain⟨b,off,rfl,hbB,q0,q1,q2,q3⟩:=Pars.at4 (hf.pa.below hb1) hlt
       by_cases hz:100<f.pa[k].name.size
       ·have hv:Hid (Pl.vast f=true):=Lib.hid (by unfold Pl.vast;simp only[Bool.or_eq_true,List.any_eq_true,decide_eq_true_eq];exact .inr (.inr ⟨_,List.getElem_mem hlt,hz⟩))
        go_wp2
        go_ret
        exact⟨ret_bool hv.out.symm,hb1⟩
       ·go_wp2
        go_roundw
        case rel=>exact⟨k+1,by omega,by go_num,by intro s hs';rw[List.take_succ_eq_append_getElem hlt,List.mem_append]at hs';rcases hs' with h|h;exact hs3 _ h;simp at h;subst h;omega,kb,hb1⟩
        case measure=>first|(simp[intOf];done)|(simp[intOf];omega)
      ·obtain rfl:k=f.pa.length:=by omega
       rw[List.take_length]at hs hs2 hs3
       have hv:Hid (Pl.vast f=false):=Lib.hid (by
        unfold Pl.vast
        simp only[Bool.or_eq_false_iff,List.any_eq_false,decide_eq_true_eq,decide_eq_false_iff_not]
        exact⟨⟨⟨⟨by omega,by omega⟩,by omega⟩,by omega⟩,⟨fun s hs'=>by have:=hs s hs';omega,fun s hs'=>by have:=hs2 s hs';omega⟩,fun s hs'=>by have:=hs3 s hs';omega⟩)
       go_wp2
       go_ret
       exact⟨ret_bool hv.out.symm,hb1⟩
end Go.Proofs.YtgbpekeoegfjpaaGreatDoor
namespace Go.Proofs.YtgbpekeoegfjpaaGreatDoor
open Go.RowKit
attribute [-go_sem] run_equalIn_agg storeVar loadVar
attribute [local go_sem] lv_int lv_bool lv_u8 lv_string lv_strings lv_stas lv_pars lv_vars
theorem Pl.vast_few {f:Pl.Fld}(h:Pl.vast f=false):f.st.length<=20∧f.li.length<=20∧f.pa.length<=60∧f.va.length<=60∧(∀s∈f.st,s.1.size<=100)∧(∀s∈f.li,s.size<=100)∧ ∀p∈f.pa,p.name.size<=100:=by
 unfold Pl.vast at h
 simp only[Bool.or_eq_false_iff,List.any_eq_false,decide_eq_true_eq,decide_eq_false_iff_not]at h
 obtain⟨⟨⟨⟨a,b⟩,c⟩,d⟩,⟨e,g⟩,k⟩:=h
 exact⟨by omega,by omega,by omega,by omega,fun s hs=>by have:=e s hs;omega,fun s hs=>by have:=g s hs;omega,fun s hs=>by have:=k s hs;omega⟩
theorem Pl.vast_small {f:Pl.Fld}(h:Pl.vast f=false):Small f:=by
 obtain⟨a,b,c,d,e,g,k⟩:=Pl.vast_few h
 exact⟨by omega,by omega,by omega,by omega,fun s hs=>by have:=e s hs;omega,fun s hs=>by have:=g s hs;omega,fun s hs=>by have:=k s hs;omega⟩
theorem vast_a (A1 A2 A3 A4:Option Addr)(c1 c2 c3 c4:Nat)(f:Pl.Fld)(w:World)(hf:FldS w w.heap.size A1 A2 A3 A4 f)(b:Bool)(hb:Hid (Pl.vast f=b)):
  Calls Tryz.prog 23 #[.agg (fq A1 A2 A3 A4 c1 c2 c3 c4 f)] w fun e w'=>e=.returned (.bool b)∧Below w.heap.size w w':=by
 rw[<-hb.out]
 by_cases h:f.st.length<=20∧f.li.length<=20∧f.pa.length<=60∧f.va.length<=60
 ·exact vast_few A1 A2 A3 A4 c1 c2 c3 c4 f w hf h.1 h.2.1 h.2.2.1 h.2.2.2
 ·exact vast_many A1 A2 A3 A4 c1 c2 c3 c4 f w (by omega)
end Go.Proofs.YtgbpekeoegfjpaaGreatDoor
namespace Go.Proofs.YtgbpekeoegfjpaaGreatDoor
namespace Pl
theorem cutAt_other {sep b:UInt8}(l:List UInt8)(h:b≠sep): ∃w ws,cutAt sep l=w::ws∧cutAt sep (b::l)=(b::w)::ws:=by
 cases e:cutAt sep l with
 |nil=>exact absurd e (cutAt_ne sep l)
 |cons w ws=>exact⟨w,ws,rfl,by unfold cutAt;rw[if_neg h,e]⟩
def refW :List UInt8->List UInt8->List (List UInt8)
 |w,[]=>solid [w]
 |w,b::l=>if b=35 then solid [w]else if b=32 then solid [w]++refW [] l else refW (w++[b]) l
theorem refW_cut (l:List UInt8): ∀w:List UInt8,refW w l=match cutAt 32 (ahead l)with
  | []=>[]
  |x::xs=>solid ((w++x)::xs):=by
 induction l with
 |nil=>intro w;simp[refW,ahead,cutAt]
 | cons b l ih=>
  intro w
  unfold refW
  split
  ·rename_i h;subst h
   simp[ahead,cutAt]
  ·rename_i h
   have ha:ahead (b::l)=b::ahead l:=by unfold ahead;rw[List.takeWhile_cons];simp[h]
   rw[ha]
   split
   ·rename_i h2;subst h2
    have e:cutAt 32 (32::ahead l)=[]::cutAt 32 (ahead l):=by simp[cutAt]
    rw[e,ih]
    cases e2:cutAt 32 (ahead l)with
    |nil=>exact absurd e2 (cutAt_ne _ _)
    |cons x xs=>simp[solid,List.filter_cons];split<;>simp
   ·rename_i h2
    obtain⟨x,xs,e1,e2⟩:=cutAt_other (ahead l) h2
    rw[ih,e1,e2]
    simp
theorem refW_words (l:List UInt8):refW [] l=wordsOf l:=by
 rw[refW_cut]
 unfold wordsOf
 cases e:cutAt 32 (ahead l)with
 |nil=>exact absurd e (cutAt_ne _ _)
 |cons x xs=>simp
end Pl
end Go.Proofs.YtgbpekeoegfjpaaGreatDoor
namespace Go.Proofs.YtgbpekeoegfjpaaGreatDoor.Pl
open Go.RowKit
/-! ### Words -/
def cutW (acc:List UInt8):List UInt8->List (List UInt8)
 | []=>[acc]
 |c::s=>if c=32 then acc::cutW [] s else cutW (acc++[c]) s
def pre (acc:List UInt8):List (List UInt8)->List (List UInt8)
 | []=>[]
 |x::xs=>(acc++x)::xs
theorem pre_nil (l:List (List UInt8)):pre [] l=l:=by cases l<;>rfl
theorem splitK_cons_ne (c:UInt8)(hc:c≠32)(r:List UInt8): ∀k,Lib.splitK [32] 0 k (c::r)=pre [c] (Lib.splitK [32] 0 k r)
 |0=>rfl
 | k+1=>by
  have hp:([32]:List UInt8).isPrefixOf (c::r)=false:=by simp[List.isPrefixOf,Ne.symm hc]
  have hix:Lib.index (c::r) [32]=if Lib.index r [32]== -1 then-1 else Lib.index r [32]+1:=by rw[Lib.index,hp];simp
  unfold Lib.splitK
  by_cases hm:Lib.index r [32]= -1
  ·rw[hix,if_pos (beq_iff_eq.2 hm),hm];rfl
  ·have hge:=Lib.index_ge r [32]
   have hn: ¬(Lib.index r [32]== -1)=true:=fun e=>hm (beq_iff_eq.1 e)
   rw[hix,if_neg hn,if_neg hn,if_neg (by intro e;have:=beq_iff_eq.1 e;omega)]
   obtain⟨i,hi⟩: ∃i:Nat,Lib.index r [32]=i:=⟨(Lib.index r [32]).toNat,by omega⟩
   rw[hi]
   have e:((i:Int)+1).toNat=i+1:=by omega
   rw[e]
   simp[pre]
theorem splitK_cons_eq (r:List UInt8)(k:Nat):Lib.splitK [32] 0 (k+1) (32::r)=[]::Lib.splitK [32] 0 k r:=by
 have hix:Lib.index (32::r) [32]=((0:Nat):Int):=by rw[Lib.index];simp[List.isPrefixOf]
 rw[Lib.splitK,hix]
 simp
theorem cutW_split : ∀(s acc:List UInt8),cutW acc s=pre acc (Lib.splitK [32] 0 (Lib.count s [32]) s)
 | [],acc=>by
  have:Lib.count [] [32]=0:=rfl
  rw[this];unfold cutW Lib.splitK pre;simp
 | c::s,acc=>by
  unfold cutW
  by_cases hc:c=32
  ·subst hc
   rw[if_pos rfl,Lib.count_cons_eq,Nat.add_comm,splitK_cons_eq,cutW_split s [],pre_nil]
   simp[pre]
  ·rw[if_neg hc,Lib.count_cons_ne c 32 s hc,splitK_cons_ne c hc,cutW_split s (acc++[c])]
   cases Lib.splitK [32] 0 (Lib.count s [32]) s with
   |nil=>rfl
   |cons x xs=>simp[pre]
theorem wordsV_cut (s:ByteArray):(wordsV s).map (·.data.toList)=cutW [] s.data.toList:=by
 unfold wordsV
 rw[Lib.splitB_data,cutW_split,pre_nil]
theorem cutW_plain : ∀(x acc:List UInt8),32∉x->cutW acc x=[acc++x]
 | [],acc,_=>by simp[cutW]
 |c::x,acc,h=>by
  simp only[List.mem_cons,not_or]at h
  unfold cutW
  rw[if_neg (Ne.symm h.1),cutW_plain x _ h.2];simp
theorem cutW_blank : ∀(x acc s:List UInt8),32∉x->cutW acc (x++32::s)=(acc++x)::cutW [] s
 | [],acc,s,_=>by simp[cutW]
 |c::x,acc,s,h=>by
  simp only[List.mem_cons,not_or]at h
  rw[List.cons_append,cutW,if_neg (Ne.symm h.1),cutW_blank x _ s h.2];simp
theorem join_two (x y:List UInt8)(r:List (List UInt8)):Lib.join (x::y::r) [32]=x++32::Lib.join (y::r) [32]:=by
 rw[Lib.join_cons,Lib.join_cons];simp[Lib.joinTail]
theorem cutW_join : ∀(xs:List (List UInt8)),xs≠ []->(∀x∈xs,32∉x)->cutW [] (Lib.join xs [32])=xs
 | [],h,_=>absurd rfl h
 | [x],_,h=>by rw[Lib.join_one,cutW_plain x [] (h x (by simp))];simp
 |x::y::r,_,h=>by
  rw[join_two,cutW_blank x [] _ (h x (by simp)),cutW_join (y::r) (by simp) (fun z hz=>h z (by simp[hz]))];simp
/-! ### Numbers -/
theorem numV_spelt {k:Int}(h0:0<=k)(h1:k<=1000000000000):numV (spelt k)=some k:=by
 have e:(spelt k).data.toList=Lib.decDigits k.toNat:=by unfold spelt;simp[itoa_pos h0]
 unfold numV
 rw[e,atoi_dec _ (by omega)]
 simp only[]
 rw[Int.toNat_of_nonneg h0,if_pos ⟨h0,h1,rfl⟩]
theorem spelt_plain {k:Int}(h0:0<=k):(32:UInt8)∉(spelt k).data.toList:=by
 have e:(spelt k).data.toList=Lib.decDigits k.toNat:=by unfold spelt;simp[itoa_pos h0]
 rw[e]
 intro h
 have:=(dec_digit _ _ h).1
 exact absurd this (by decide)
/-! ### Units -/
theorem good_poles :Good poles:=by decide+kernel
theorem word_size {us:List Unit}(hg:Good us){u:Unit}(hu:u∈us)(k:Int):sizeOf (word k u) us 0=u.1:=by
 obtain⟨_,_,h1,h2,_⟩:=hg u hu
 unfold word;split
 ·exact h1
 ·exact h2
theorem word_plain {us:List Unit}(hg:Good us){u:Unit}(hu:u∈us)(k:Int):(32:UInt8)∉(word k u).data.toList:=by
 obtain⟨_,_,_,_,h1,h2⟩:=hg u hu
 unfold word;split
 ·exact h1
 ·exact h2
theorem stepV_part {n c s:Int}(h0:0<=n)(h2:n+c<=1000000000000)(hs:1<=s):stepV n (c/s) s=some (n+c/s*s):=by
 have e1:c/s*s<=c:=Int.ediv_mul_le c (by omega)
 have e2:c/s<=1000000000000/s:=Int.ediv_le_ediv (by omega) (by omega)
 unfold stepV
 rw[if_pos ⟨by omega,e2⟩,if_pos (by omega)]
theorem addV_named {us:List Unit}(hg:Good us): ∀(vs:List Unit),(∀v∈vs,v∈us)-> ∀(c n:Int),0<=c->0<=n->n+c<=1000000000000->addV us (namedL c vs) n=some (n+c-endC c vs)
 | [],_,c,n,_,_,_=>by unfold namedL endC addV;simp
 | v::vs,hv,c,n,h0,h1,h2=>by
  have hm:=hv v (by simp)
  obtain⟨g1,g2,_⟩:=hg v hm
  have e1:c/v.1*v.1+c%v.1=c:=by rw[Int.mul_comm];exact Int.mul_ediv_add_emod c v.1
  have e2:0<=c%v.1:=Int.emod_nonneg _ (by omega)
  have e3:0<=c/v.1:=Int.ediv_nonneg h0 (by omega)
  have e4:c/v.1<=c:=Int.ediv_le_self _ h0
  have e5:0<=c/v.1*v.1:=Int.mul_nonneg e3 (by omega)
  unfold namedL endC
  by_cases hk:c/v.1>0
  ·rw[if_pos hk]
   have:=addV_named hg vs (fun w hw=>hv w (by simp[hw])) (c%v.1) (n+c/v.1*v.1) e2 (by omega) (by omega)
   show addV us (spelt (c/v.1)::word (c/v.1) v::namedL (c%v.1) vs) n=_
   rw[addV_some (numV_spelt e3 (by omega)) (word_size hg hm _) (stepV_part h1 h2 g1),this]
   congr 1;omega
  ·rw[if_neg hk,List.nil_append]
   have hz:c/v.1=0:=by omega
   rw[hz]at e1
   rw[addV_named hg vs (fun w hw=>hv w (by simp[hw])) (c%v.1) n e2 h1 (by omega)]
   congr 1;omega
theorem namedL_even (c:Int)(us:List Unit):(namedL c us).length%2=0:=by
 induction us generalizing c with
 |nil=>rfl
 |cons u us ih=>
  have:=ih (c%u.1)
  simp only[namedL]
  split<;>simp<;>omega
theorem namedL_plain {us:List Unit}(hg:Good us): ∀(vs:List Unit),(∀v∈vs,v∈us)-> ∀(c:Int),0<=c-> ∀x∈(namedL c vs).map (·.data.toList),(32:UInt8)∉x
 | [],_,c,_,x,hx=>by simp[namedL]at hx
 | v::vs,hv,c,h0,x,hx=>by
  have hm:=hv v (by simp)
  obtain⟨g1,_⟩:=hg v hm
  simp only[namedL,List.map_append,List.mem_append]at hx
  rcases hx with hx|hx
  ·split at hx
   ·rename_i hk
    simp only[List.map_cons,List.map_nil,List.mem_cons,List.not_mem_nil,or_false]at hx
    rcases hx with rfl|rfl
    ·exact spelt_plain (by omega)
    ·exact word_plain hg hm _
   ·simp at hx
  ·exact namedL_plain hg vs (fun w hw=>hv w (by simp[hw])) (c%v.1) (Int.emod_nonneg _ (by omega)) x hx
theorem ba_of_list {a b:List ByteArray}(h:a.map (·.data.toList)=b.map (·.data.toList)):a=b:=by
 have hi: ∀x y:ByteArray,x.data.toList=y.data.toList->x=y:=fun x y e=>by
  cases x;cases y;simp only[ByteArray.mk.injEq];exact Array.toList_inj.1 e
 induction a generalizing b with
 |nil=>cases b with
  |nil=>rfl
  |cons y b=>simp at h
 | cons x a ih=>cases b with
  |nil=>simp at h
  |cons y b=>
   simp only[List.map_cons,List.cons.injEq]at h
   rw[hi x y h.1,ih h.2]
theorem wordsV_named {us:List Unit}(hg:Good us){c:Int}(h0:0<=c)(hne:namedL c us≠ []):wordsV (named c us)=namedL c us:=by
 apply ba_of_list
 rw[wordsV_cut]
 have e:(named c us).data.toList=Lib.join ((namedL c us).map (·.data.toList)) [32]:=by unfold named;rw[if_neg hne]
 rw[e]
 exact cutW_join _ (by simpa using hne) (namedL_plain hg us (fun v hv=>hv) c h0)
theorem readV_named {us:List Unit}{wr:Int->ByteArray}(hg:Good us){c:Int}(h0:0<=c)(h1:c<=1000000000000)(hw:wr c=named c us)(hend:endC c us=0)(hz:namedL c us=[]->c=0∧readV us wr (named c us)=some 0):readV us wr (named c us)=some c:=by
 by_cases hne:namedL c us=[]
 ·obtain⟨hc,h⟩:=hz hne
  rw[h,hc]
 ·unfold readV
  rw[wordsV_named hg h0 hne,if_pos (namedL_even c us),addV_named hg us (fun v hv=>hv) c 0 h0 (by omega) (by omega),hend]
  simp[hw]
theorem namedL_zero {c:Int}(h:0<=c): ∀ {us:List Unit},(∀u∈us,1<=u.1)->namedL c us=[]->endC c us=c
 | [],_,_=>rfl
 | u::us,hp,hn=>by
  have g1:=hp u (by simp)
  have e1:c/u.1*u.1+c%u.1=c:=by rw[Int.mul_comm];exact Int.mul_ediv_add_emod c u.1
  have e3:0<=c/u.1:=Int.ediv_nonneg h (by omega)
  unfold namedL at hn
  unfold endC
  by_cases hk:c/u.1>0
  ·rw[if_pos hk]at hn;simp at hn
  ·have hz:c/u.1=0:=by omega
   rw[hz]at e1
   have e:c%u.1=c:=by omega
   rw[if_neg hk,List.nil_append,e]at hn
   rw[e]
   exact namedL_zero h (fun v hv=>hp v (by simp[hv])) hn
theorem end_poles (c:Int):endC c poles=0:=by unfold poles;simp only[endC];omega
theorem lengthV_in {n:Int}(h0:0<=n)(h1:n<=1000000):lengthV n=named n poles:=by unfold lengthV;rw[if_pos ⟨h0,h1⟩]
theorem links_back {n:Int}(h0:0<=n)(h1:n<=1000000):readV poles lengthV (lengthV n)=some n:=by
 rw[lengthV_in h0 h1]
 refine readV_named good_poles h0 (by omega) (lengthV_in h0 h1) (end_poles n) fun hn=> ?_
 have:=namedL_zero h0 (us:=poles) (fun u hu=>(good_poles u hu).1) hn
 rw[end_poles]at this
 obtain rfl:n=0:=this.symm
 exact⟨rfl,by decide+kernel⟩
end Go.Proofs.YtgbpekeoegfjpaaGreatDoor.Pl
namespace Go.Proofs.YtgbpekeoegfjpaaGreatDoor.Pl
open Go.RowKit
/-! ### Writing, as the reference does -/
/-! ### Directions -/
def unq (l:List UInt8):Int:=
 match cutW [] l with
 | [a]=>if a=north then 0 else if a=east then 90 else if a=south then 180 else 270
 | [a,n,b]=>if a=north then (if b=east then (numGo 0 n).getD 0 else 360-(numGo 0 n).getD 0)else (if b=east then 180-(numGo 0 n).getD 0 else 180+(numGo 0 n).getD 0)
 |_=> -1
theorem unq_quad : ∀d:Fin 360,unq (quad (d.1:Int))=d.1:=by decide+kernel
theorem quad_mod (d:Int):quad (d%360)=quad d:=by unfold quad;rw[Int.emod_emod_of_dvd _ (by decide)]
theorem quad_inj {a b:Int}(a0:0<=a)(a1:a<360)(b0:0<=b)(b1:b<360)(h:quad a=quad b):a=b:=by
 have ha:=unq_quad ⟨a.toNat,by omega⟩
 have hb:=unq_quad ⟨b.toNat,by omega⟩
 simp only[Int.toNat_of_nonneg a0,Int.toNat_of_nonneg b0]at ha hb
 rw[h,hb]at ha
 exact ha.symm
theorem bearGo_spec (l:List UInt8): ∀(f k:Nat),(∃r:Nat,bearGo l f k=some (r:Int)∧quad (r:Int)=l∧k<=r∧r<k+f)∨(bearGo l f k=none∧ ∀j:Nat,k<=j->j<k+f->quad (j:Int)≠l)
 |0,k=> .inr ⟨rfl,fun j h1 h2=>by omega⟩
 | f+1,k=>by
  unfold bearGo
  by_cases h:quad (k:Int)=l
  ·rw[if_pos h];exact .inl ⟨k,rfl,h,by omega,by omega⟩
  ·rw[if_neg h]
   rcases bearGo_spec l f (k+1)with ⟨r,h1,h2,h3,h4⟩|⟨h1,h2⟩
   ·exact .inl ⟨r,h1,h2,by omega,by omega⟩
   ·refine .inr ⟨h1,fun j j1 j2=> ?_⟩
    by_cases hj:j=k
    ·subst hj;exact h
    ·exact h2 j (by omega) (by omega)
theorem bear_back (d:Int):bearV ⟨(quad d).toArray⟩=some (d%360):=by
 have h0:0<=d%360:=by omega
 have h1:d%360<360:=by omega
 unfold bearV
 rcases bearGo_spec (quad d) 360 0 with ⟨r,k1,k2,k3,k4⟩|⟨k1,k2⟩
 ·show bearGo (quad d) 360 0=_
  rw[k1]
  have:=quad_inj (a:=r) (b:=d%360) (by omega) (by omega) h0 h1 (by rw[k2,quad_mod])
  rw[this]
 ·exact absurd (by rw[Int.toNat_of_nonneg h0,quad_mod]) (k2 (d%360).toNat (by omega) (by omega))
end Go.Proofs.YtgbpekeoegfjpaaGreatDoor.Pl
namespace Go.Proofs.YtgbpekeoegfjpaaGreatDoor.Pl
open Go.RowKit
theorem numF_iff {s:ByteArray}{v:Int}:numF s=some v↔0<=v∧v<=999999999∧spelt v=s:=by
 unfold numF
 constructor
 ·intro h
  cases e:sgnV s with
  |none=>rw[e]at h;cases h
  |some u=>
   rw[e]at h
   simp only[Option.bind_some]at h
   split at h
   ·cases h;have:=sgnV_iff.1 e;exact⟨‹_›,this.2.1,this.2.2⟩
   ·cases h
 ·rintro⟨h0,h1,h2⟩
  rw[(sgnV_iff (s:=s) (v:=v)).2 ⟨by omega,h1,h2⟩]
  simp[h0]
end Go.Proofs.YtgbpekeoegfjpaaGreatDoor.Pl
namespace Go.Proofs.YtgbpekeoegfjpaaGreatDoor
namespace Pl
section
variable {α : Type} [Inhabited α] [DecidableEq α]
end
def spPts (l:List Sp):List Int:=l.flatMap fun x=>[(x.fr:Int),(x.till:Int)]
end Pl
end Go.Proofs.YtgbpekeoegfjpaaGreatDoor
namespace Go.Proofs.YtgbpekeoegfjpaaGreatDoor
namespace Pl
instance : Inhabited Bd := ⟨⟨0, 0, 0, 0⟩⟩
/-! ### The way back -/
theorem callE_three {f:Fld}{c:Cal}(h:callE f c=0)(hk:c.kind=3):c.crs.ok=true∧comE f.va [c.crs] (runC f.st c)=0∧(com f.va [c.crs] (runC f.st c)).2.2=true:=by
 unfold callE at h
 split at h
 ·cases h
 rename_i ht
 rw[if_neg (by simpa using hk)]at h
 split at h
 ·cases h
 rename_i h1
 split at h
 ·exact absurd h ‹_›
 rename_i h2
 split at h
 ·rename_i h3
  exact⟨by simpa using h1,by simpa using h2,h3⟩
 ·cases h
theorem callE_tab {f:Fld}{c:Cal}(h:callE f c=0):c.tab f.st.length f.li.length:=by
 unfold callE at h
 split at h
 ·cases h
 ·rename_i h1;exact Classical.not_not.1 h1
end Pl
namespace Pl
end Pl
namespace Pl
/-! ### Words that are plain -/
end Pl
namespace Pl
end Pl
namespace Pl
end Pl
namespace Pl
end Pl
namespace Pl
def blankT (com:List UInt8)(at_:Int):Int->List UInt8->List UInt8
 |_,[]=>[]
 |line,b::l=>(if b=10∧line=at_ then 32::35::32::(com++[10,32,32])else [])++(b::(if b=32 then [32]else []))++blankT com at_ (if b=10 then line+1 else line) l
def cutP (a:List UInt8)(l:List UInt8):List (List UInt8):=match cutAt 10 l with
 | []=>[a]
 |w::ws=>(a++w)::ws
theorem cutP_nil (a:List UInt8):cutP a []=[a]:=by simp[cutP,cutAt]
theorem cutP_line (a l:List UInt8):cutP a (10::l)=a::cutP [] l:=by
 unfold cutP
 rw[show cutAt 10 (10::l)=[]::cutAt 10 l by simp[cutAt]]
 simp only[List.append_nil]
 cases e:cutAt 10 l with
 |nil=>exact absurd e (cutAt_ne _ _)
 |cons w ws=>rfl
theorem cutP_byte (a l:List UInt8){b:UInt8}(h:b≠10):cutP a (b::l)=cutP (a++[b]) l:=by
 obtain⟨w,ws,e1,e2⟩:=cutAt_other l h
 unfold cutP
 rw[e1,e2]
 simp
theorem cutP_text : ∀(c a l:List UInt8),(10:UInt8)∉c->cutP a (c++10::l)=(a++c)::cutP [] l
 | [],a,l,_=>by rw[List.nil_append,cutP_line];simp
 |b::c,a,l,h=>by
  rw[List.cons_append,cutP_byte a _ (fun e=>h (by simp[e])),cutP_text c _ l (fun e=>h (by simp[e]))]
  simp
theorem cutP_lines (l:List UInt8):cutP [] l=linesOf l:=by
 unfold cutP linesOf
 cases e:cutAt 10 l with
 |nil=>exact absurd e (cutAt_ne _ _)
 |cons w ws=>rfl
def Eqv (a a':List UInt8):Prop:= ∀x,refW [] (a'++x)=refW [] (a++x)
theorem refW_double : ∀(p w x:List UInt8),refW w (p++32::32::x)=refW w (p++32::x)
 | [],w,x=>by simp[refW,solid]
 |b::p,w,x=>by
  have h1:=refW_double p [] x
  have h2:=refW_double p (w++[b]) x
  rw[List.cons_append,List.cons_append,refW,refW,h1,h2]
theorem refW_comment : ∀(p w c:List UInt8),refW w (p++32::35::c)=refW w p
 | [],w,c=>by simp[refW,solid]
 |b::p,w,c=>by
  have h1:=refW_comment p [] c
  have h2:=refW_comment p (w++[b]) c
  rw[List.cons_append,refW,refW,h1,h2]
theorem Eqv.refl (a:List UInt8):Eqv a a:=fun _=>rfl
theorem Eqv.byte {a a':List UInt8}(h:Eqv a a')(b:UInt8):Eqv (a++[b]) (a'++[b]):=fun x=>by
 rw[List.append_assoc,List.append_assoc]
 exact h _
theorem Eqv.blank {a a':List UInt8}(h:Eqv a a'):Eqv (a++[32]) (a'++[32]++[32]):=fun x=>by
 rw[List.append_assoc,List.append_assoc,List.append_assoc]
 show refW [] (a'++32::32::x)=refW [] (a++32::x)
 rw[refW_double]
 exact h _
theorem Eqv.words {a a':List UInt8}(h:Eqv a a'):wordsOf a'=wordsOf a:=by
 have:=h []
 rw[List.append_nil,List.append_nil,refW_words,refW_words]at this
 exact this
theorem Eqv.comment {a a':List UInt8}(h:Eqv a a')(c:List UInt8):wordsOf (a'++32::35::c)=wordsOf a:=by
 rw[<-refW_words,refW_comment,refW_words]
 exact h.words
def full (l:List (List (List UInt8))):List (List (List UInt8)):=l.filter fun w=> !w.isEmpty
theorem blank_words (com:List UInt8)(hc:(10:UInt8)∉com)(at_:Int): ∀(l:List UInt8) (line:Int) (a a':List UInt8),Eqv a a'->full ((cutP a' (blankT com at_ line l)).map wordsOf)=full ((cutP a l).map wordsOf)
 | [],line,a,a',h=>by
  unfold blankT
  rw[cutP_nil,cutP_nil,List.map_singleton,List.map_singleton,h.words]
 | b::l,line,a,a',h=>by
  unfold blankT
  by_cases hb:b=10
  ·subst hb
   have ih:=blank_words com hc at_ l (line+1) [] [] (Eqv.refl [])
   rw[if_neg (show ¬(10:UInt8)=32 by decide),if_pos (show(10:UInt8)=10 from rfl),cutP_line a l]
   by_cases hl:line=at_
   ·rw[if_pos ⟨rfl,hl⟩]
    have e:32::35::32::(com++[10,32,32])++[10]++blankT com at_ (line+1) l=(32::35::32::com)++10::([32,32]++10::blankT com at_ (line+1) l):=by simp
    rw[e,cutP_text _ a' _ (by simp[hc]),cutP_text [32,32] [] _ (by decide),List.map_cons,List.map_cons,List.map_cons,h.comment]
    have e2:wordsOf ([]++[32,32])=[]:=by decide+kernel
    rw[e2]
    unfold full at ih ⊢
    rw[List.filter_cons,List.filter_cons,List.filter_cons,ih]
    simp
   ·rw[if_neg (fun h=>hl h.2),List.nil_append]
    show full ((cutP a' (10::blankT com at_ (line+1) l)).map wordsOf)=_
    rw[cutP_line,List.map_cons,List.map_cons,h.words]
    unfold full at ih ⊢
    rw[List.filter_cons,List.filter_cons,ih]
  ·rw[if_neg (fun h=>hb h.1),if_neg hb,List.nil_append,cutP_byte a l hb]
   by_cases h32:b=32
   ·subst h32
    rw[if_pos rfl]
    show full ((cutP a' (32::32::blankT com at_ line l)).map wordsOf)=_
    rw[cutP_byte _ _ (by decide),cutP_byte _ _ (by decide)]
    exact blank_words com hc at_ l line _ _ h.blank
   ·rw[if_neg h32]
    show full ((cutP a' (b::blankT com at_ line l)).map wordsOf)=_
    rw[cutP_byte _ _ hb]
    exact blank_words com hc at_ l line _ _ (h.byte b)
def fullB (s:ByteArray):List (List ByteArray):=((linesB s).map wordsB).filter fun w=> !w.isEmpty
theorem fullB_eq (l:List UInt8):fullB (mkB l)=(full ((linesOf l).map wordsOf)).map fun ws=>ws.map mkB:=by
 unfold fullB full linesB wordsB
 rw[List.map_map,List.filter_map,List.filter_map,List.map_map]
 have e:(mkB l).data.toList=l:=by simp[mkB]
 rw[e]
 have e2: ∀x:List UInt8,(mkB x).data.toList=x:=fun x=>by simp[mkB]
 have e3:((fun w:List ByteArray=> !w.isEmpty)∘((fun s:ByteArray=>(wordsOf s.data.toList).map mkB)∘mkB))=((fun w:List (List UInt8)=> !w.isEmpty)∘wordsOf):=by
  funext x
  simp[e2]
 rw[e3]
 apply List.map_congr_left
 intro x _
 simp[e2]
theorem blank_full (com src:List UInt8)(hc:(10:UInt8)∉com)(at_:Int):fullB (mkB (blankT com at_ 0 src))=fullB (mkB src):=by
 rw[fullB_eq,fullB_eq,<-cutP_lines,<-cutP_lines,blank_words com hc at_ src 0 [] [] (Eqv.refl [])]
theorem fieldGo_full : ∀(wss:List (List ByteArray)) (f:Fld) (n m:Nat),(fieldGo f n wss).1=(fieldGo f m (wss.filter fun w=> !w.isEmpty)).1∧(fieldGo f n wss).2.1=(fieldGo f m (wss.filter fun w=> !w.isEmpty)).2.1
 | [],f,n,m=>by
  rw[List.filter_nil]
  unfold fieldGo
  split<;>exact⟨rfl,rfl⟩
 | []::l,f,n,m=>by
  rw[List.filter_cons,if_neg (by simp),fieldGo,if_pos rfl]
  exact fieldGo_full l f (n+1) m
 |(a::w)::l,f,n,m=>by
  rw[List.filter_cons,if_pos (by simp),fieldGo,fieldGo,if_neg (by simp),if_neg (by simp)]
  cases fieldLine f (a::w)with
  |ok g=>exact fieldGo_full l g (n+1) (m+1)
  |error e=>exact⟨rfl,rfl⟩
theorem deedsGo_full : ∀(wss:List (List ByteArray)) (f:Fld) (all:List Ded) (n m:Nat),(deedsGo f all n wss).1=(deedsGo f all m (wss.filter fun w=> !w.isEmpty)).1∧(deedsGo f all n wss).2.1=(deedsGo f all m (wss.filter fun w=> !w.isEmpty)).2.1
 | [],f,all,n,m=>by
  rw[List.filter_nil,deedsGo,deedsGo]
  exact⟨rfl,rfl⟩
 | []::l,f,all,n,m=>by
  rw[List.filter_cons,if_neg (by simp),deedsGo,if_pos rfl]
  exact deedsGo_full l f all (n+1) m
 |(a::w)::l,f,all,n,m=>by
  rw[List.filter_cons,if_pos (by simp),deedsGo,deedsGo,if_neg (by simp),if_neg (by simp)]
  cases deedLine f all (a::w)with
  |ok g=>exact deedsGo_full l f g (n+1) (m+1)
  |error e=>exact⟨rfl,rfl⟩
theorem blankT_len (com:List UInt8)(at_:Int): ∀(l:List UInt8) (line:Int),(blankT com at_ line l).length<=2*l.length+(if line<=at_ then com.length+6 else 0)
 | [],line=>by simp[blankT]
 | b::l,line=>by
  unfold blankT
  have ih:=blankT_len com at_ l (if b=10 then line+1 else line)
  simp only[List.length_append,List.length_cons]at ih ⊢
  by_cases hb:b=10
  ·rw[if_pos hb]at ih
   rw[if_pos hb,if_neg (show ¬b=32 by rw[hb];decide)]
   by_cases hl:line=at_
   ·rw[if_pos ⟨hb,hl⟩,if_pos (by omega)]
    rw[if_neg (by omega)]at ih
    simp
    omega
   ·rw[if_neg (fun h=>hl h.2)]
    simp only[List.length_nil]
    split at ih<;>split<;>omega
  ·rw[if_neg hb]at ih
   rw[if_neg hb,if_neg (fun h=>hb h.1)]
   simp only[List.length_nil]
   split at ih<;>(repeat' split)<;>simp<;>omega
theorem blank_field {com src:List UInt8}(hc:(10:UInt8)∉com)(h1:src.length<=8000)(h2:com.length<=100)(at_:Int):
  (parseField (mkB (blankT com at_ 0 src))).1=(parseField (mkB src)).1∧(parseField (mkB (blankT com at_ 0 src))).2.1=(parseField (mkB src)).2.1:=by
 have hs: ∀l:List UInt8,(mkB l).size=l.length:=fun l=>by unfold mkB ByteArray.size;simp
 have hl:=blankT_len com at_ src 0
 have hl:(blankT com at_ 0 src).length<=20000:=by split at hl<;>omega
 unfold parseField
 rw[if_neg (by rw[hs];omega),if_neg (by rw[hs];omega)]
 obtain⟨a1,a2⟩:=fieldGo_full ((linesB (mkB (blankT com at_ 0 src))).map wordsB) Fld.none 0 0
 obtain⟨b1,b2⟩:=fieldGo_full ((linesB (mkB src)).map wordsB) Fld.none 0 0
 have e:=blank_full com src hc at_
 unfold fullB at e
 rw[a1,a2,b1,b2,e]
 exact⟨rfl,rfl⟩
theorem blank_deeds {f:Fld}{com src:List UInt8}(hc:(10:UInt8)∉com)(h1:src.length<=8000)(h2:com.length<=100)(at_:Int):
  (parseDeeds f (mkB (blankT com at_ 0 src))).1=(parseDeeds f (mkB src)).1∧(parseDeeds f (mkB (blankT com at_ 0 src))).2.1=(parseDeeds f (mkB src)).2.1:=by
 have hs: ∀l:List UInt8,(mkB l).size=l.length:=fun l=>by unfold mkB ByteArray.size;simp
 have hl:=blankT_len com at_ src 0
 have hl:(blankT com at_ 0 src).length<=20000:=by split at hl<;>omega
 unfold parseDeeds
 by_cases hf:fieldE f=0
 ·have hn: ¬fieldE f≠0:=fun k=>k hf
  rw[if_neg hn,if_neg hn,if_neg (by rw[hs];omega),if_neg (by rw[hs];omega)]
  obtain⟨a1,a2⟩:=deedsGo_full ((linesB (mkB (blankT com at_ 0 src))).map wordsB) f [] 0 0
  obtain⟨b1,b2⟩:=deedsGo_full ((linesB (mkB src)).map wordsB) f [] 0 0
  have e:=blank_full com src hc at_
  unfold fullB at e
  rw[a1,a2,b1,b2,e]
  exact⟨rfl,rfl⟩
 ·rw[if_pos hf,if_pos hf]
  exact⟨rfl,rfl⟩
end Pl
open Go.RowKit
attribute [-go_sem] Builtin.append_
def encCl (c:Pl.Cal):List Value:=[.int .u8 (c.kind:Int),.int .i64 c.lim,.int .i64 c.oth,.int .i64 c.fr,.int .i64 c.till,.int .i64 c.size,.int .i64 c.er,.int .i64 c.crs.b,.int .i64 c.crs.n,.int .i64 c.crs.l,.int .i64 c.crs.y,.int .i64 c.crs.x,.int .i64 c.crs.s]
def slv (p:Option Addr×Nat)(n:Nat):Value:=.slice p.1 n p.2
def blk (p:Option Addr×Nat):Option Nat:=p.1.map (·.block)
def encDd (x:Pl.Ded×Option Addr×Nat):List Value:=[.string x.1.name,.int .i64 x.1.year,.int .i64 x.1.rank,slv x.2 x.1.calls.length]
theorem lay_cl :Lay encCl 88 48 (.agg z13) 13 104:=
 ⟨Tryz.underlying88,by kernel_rfl,rfl,by decide,fun _=>rfl,fun x v hv=>by simp[encCl]at hv;rcases hv with rfl|rfl|rfl|rfl|rfl|rfl|rfl|rfl|rfl|rfl|rfl|rfl|rfl<;>rfl⟩
theorem lay_dd :Lay encDd 38 90 (.agg #[.string ⟨#[]⟩,.int .i64 0,.int .i64 0,.slice none 0 0]) 4 56:=
 ⟨Tryz.underlying38,by kernel_rfl,rfl,by decide,fun _=>rfl,fun x v hv=>by simp[encDd]at hv;rcases hv with rfl|rfl|rfl|rfl<;>rfl⟩
theorem slv_own (p:Option Addr×Nat)(n:Nat):(slv p n).ownBlock=blk p:=by
 obtain⟨a,c⟩:=p
 cases a<;>rfl
theorem row_put {W:World}{n₀:Nat}{e:TypeId}{size n g j:Nat}{v u:Value}{xs:List Value}(h:W.ownsRow n₀ e size v n xs)(hg:v.ownBlock=some g):(W.setCell ⟨g,j,none⟩ u).ownsRow n₀ e size v n (xs.set j u):=by
 obtain⟨h1,h2⟩:=h
 rcases h2 with ⟨rfl,_⟩|⟨g',cap,cur,rfl,hb,hgg,hc1,hc2,hc3,hc4⟩
 ·simp[Value.ownBlock]at hg
 ·have:g'=g:=by simpa [Value.ownBlock]using hg
  subst this
  refine⟨by simpa using h1,.inr ⟨g',cap,cur.setIfInBounds j u,rfl,hb,heap_setCell_same W g' j _ _ u hgg,hc1,hc2,by simpa using hc3,?_⟩⟩
  rw[<-hc4,Array.toList_setIfInBounds,List.take_set]
theorem set_last (l0:List (Pl.Ded×Option Addr×Nat))(d:Pl.Ded)(p p':Option Addr×Nat)(cs:List Pl.Cal):
  ((l0++[(d,p)]).flatMap encDd).set (l0.length*4+3) (slv p' cs.length)=(l0++[({d with calls:=cs},p')]).flatMap encDd:=by
 have hl:=flat_len encDd 4 (fun _=>rfl) l0
 rw[List.flatMap_append,List.flatMap_append,List.set_append_right _ _ (by omega),hl,Nat.add_sub_cancel_left]
 rfl
def Dx (bd:Nat)(v:Value)(l:List (Pl.Ded×Option Addr×Nat))(i:Nat):Prop:=i=bd∨v.ownBlock=some i∨ ∃x∈l,blk x.2=some i
structure DInv (bd:Nat)(l:List (Pl.Ded×Option Addr×Nat))(W:World)(v:Value):Prop where
 box:W.heap[bd]?=some (.cells #[v] 38 (0,0))
 row:W.ownsRow (bd+1) 90 4 v l.length (l.flatMap encDd)
 own: ∀x∈l,W.ownsRow (bd+1) 48 13 (slv x.2 x.1.calls.length) x.1.calls.length (x.1.calls.flatMap encCl)
 one: ∀(i j:Nat) (x y:Pl.Ded×Option Addr×Nat) (g:Nat),l[i]?=some x->l[j]?=some y->blk x.2=some g->blk y.2=some g->i=j
section
variable {bd : Nat} {l : List (Pl.Ded × Option Addr × Nat)} {W W' : World} {v : Value}
theorem DInv.lt (h:DInv bd l W v):bd<W.heap.size:=(Array.getElem?_eq_some_iff.1 h.box).1
theorem DInv.dx (h:DInv bd l W v){i:Nat}(hi:Dx bd v l i):bd<=i∧i<W.heap.size:=by
 rcases hi with rfl|hi|⟨x,hx,hi⟩
 ·exact⟨Nat.le_refl _,h.lt⟩
 ·have:=h.row.lt i hi
  omega
 ·have:=(h.own x hx).lt i (by rw[slv_own];exact hi)
  omega
theorem DInv.kept (h:DInv bd l W v){b:Nat}(hg:W.grownBy W' (some b))(hn: ¬Dx bd v l b):DInv bd l W' v:=
 ⟨(hg.block bd h.lt (fun e=>by cases e;exact hn (.inl rfl))).trans h.box,h.row.kept hg (.inr fun e=>hn (.inr (.inl e))),fun x hx=>(h.own x hx).kept hg (.inr fun e=>hn (.inr (.inr ⟨x,hx,by rwa[slv_own]at e⟩))),h.one⟩
theorem DInv.below (h:DInv bd l W v)(hb:Below W.heap.size W W'):DInv bd l W' v:=
 ⟨(hb.block bd h.lt).trans h.box,own_below h.row hb,fun x hx=>own_below (h.own x hx) hb,h.one⟩
theorem DInv.empty (h:W.heap[bd]?=some (.cells #[.slice none 0 0] 38 (0,0))):DInv bd [] W (.slice none 0 0):=
 ⟨h,World.ownsRow_nil _ _ _ _,fun x hx=>(by cases hx),fun i j x y g hi=>(by simp at hi)⟩
theorem push_ded (h:DInv bd l W v)(n:ByteArray)(y r:Int)(hk:l.length<=100000):
  ∃g' cap' w2,(Builtin.append_ #[38,38] 38 #[v,.slice (some ⟨W.heap.size,0,none⟩) 1 1]).run Tryz.prog (W.alloc (.cells #[.string n,.int .i64 y,.int .i64 r,.slice none 0 0] 90))=.ok (.slice (some ⟨g',0,none⟩) (l.length+1) cap') w2∧
   w2.heap[bd]?=some (.cells #[v] 38 (0,0))∧
   DInv bd (l++[(⟨n,y,r,[]⟩,none,0)]) (w2.setCell ⟨bd,0,none⟩ (.slice (some ⟨g',0,none⟩) (l.length+1) cap')) (.slice (some ⟨g',0,none⟩) (l.length+1) cap')∧
   BelowE bd (Dx bd v l) W (w2.setCell ⟨bd,0,none⟩ (.slice (some ⟨g',0,none⟩) (l.length+1) cap'))∧W.heap.size<=w2.heap.size∧
   (∀i,Dx bd (.slice (some ⟨g',0,none⟩) (l.length+1) cap') (l++[(⟨n,y,r,[]⟩,none,0)]) i->Dx bd v l i∨W.heap.size<=i):=by
 obtain⟨g',cap',w2,hrun,hown,hg,hat⟩:=own_app2 lay_dd h.row [(⟨n,y,r,[]⟩,none,0)] 0 rfl #[.string n,.int .i64 y,.int .i64 r,.slice none 0 0] (by simp[encDd,slv]) (by unfold maxLen;omega) (by omega) h.lt
 have hb:w2.heap[bd]?=some (.cells #[v] 38 (0,0)):=(hg.block bd h.lt (own_ne h.row h.box (by decide)).symm).trans h.box
 refine⟨g',cap',w2,hrun,hb,⟨heap_setCell_same w2 bd 0 _ _ (.slice (some ⟨g',0,none⟩) (l.length+1) cap') hb,by rw[List.length_append];exact own_box hown (by omega),fun x hx=> ?_,fun i j x y' g hi hj hx hy=> ?_⟩,⟨?_,fun i hi hx=> ?_⟩,hg.size,fun i hi=> ?_⟩
 ·rcases List.mem_append.1 hx with hx|hx
  ·exact own_box ((h.own x hx).kept hg (own_apart h.row (h.own x hx) (by decide))) (by omega)
  ·have:x=(⟨n,y,r,[]⟩,none,0):=by simpa using hx
   subst this
   exact World.ownsRow_nil _ _ _ _
 ·rw[List.getElem?_append]at hi hj
  have key: ∀(i:Nat) (x:Pl.Ded×Option Addr×Nat),(if i<l.length then l[i]? else [((⟨n,y,r,[]⟩:Pl.Ded),(none:Option Addr),0)][i-l.length]?)=some x->blk x.2=some g->l[i]?=some x:=by
   intro i x hi hx
   split at hi
   ·exact hi
   ·cases hi':i-l.length with
    |zero=>rw[hi']at hi;simp at hi;subst hi;cases hx
    |succ k=>rw[hi']at hi;simp at hi
  exact h.one i j x y' g (key i x hi hx) (key j y' hj hy) hx hy
 ·have hB:Below bd W w2:=⟨hg.os,hg.tape,hg.output,hg.size,fun k hk'=>hg.block k (by have:=h.lt;omega) (fun e=>by have:=(h.row.lt k e.symm).1;omega)⟩
  exact hB.setCell (p:=⟨bd,0,none⟩) (Nat.le_refl _) _
 ·rw[Below.heap_setCell _ _ _ _ (by rintro rfl;exact hx (.inl rfl))]
  exact hg.block i hi (fun e=>hx (.inr (.inl e.symm)))
 ·rcases hi with rfl|hi|⟨x,hx,hi⟩
  ·exact .inl (.inl rfl)
  ·have hi:g'=i:=by simpa [Value.ownBlock]using hi
   subst hi
   rcases hat with h'|h'
   ·exact .inl (.inr (.inl h'))
   ·exact .inr (by omega)
  ·rcases List.mem_append.1 hx with hx|hx
   ·exact .inl (.inr (.inr ⟨x,hx,hi⟩))
   ·have:x=(⟨n,y,r,[]⟩,none,0):=by simpa using hx
    subst this
    cases hi
theorem push_call {l0:List (Pl.Ded×Option Addr×Nat)}{d:Pl.Ded}{p:Option Addr×Nat}(h:DInv bd (l0++[(d,p)]) W v)(c:Pl.Cal)(hk:d.calls.length<=100000):
  ∃ba cp,v=.slice (some ⟨ba,0,none⟩) (l0.length+1) cp∧W.cell? ⟨ba,l0.length*4+1,none⟩=some (.int .i64 d.year)∧W.cell? ⟨ba,l0.length*4+3,none⟩=some (slv p d.calls.length)∧
  (∀W1,Below W.heap.size W W1->W1.cell? ⟨ba,l0.length*4+1,none⟩=some (.int .i64 d.year)∧W1.cell? ⟨ba,l0.length*4+3,none⟩=some (slv p d.calls.length)∧W1.frozen? ⟨ba,l0.length*4+3,none⟩=false)∧
  ∀W1,Below W.heap.size W W1-> ∃g' cap' w2,(Builtin.append_ #[88,88] 88 #[slv p d.calls.length,.slice (some ⟨W1.heap.size,0,none⟩) 1 1]).run Tryz.prog (W1.alloc (.cells (encCl c).toArray 48))=.ok (.slice (some ⟨g',0,none⟩) (d.calls.length+1) cap') w2∧
   w2.cell? ⟨ba,l0.length*4+3,none⟩=some (slv p d.calls.length)∧w2.frozen? ⟨ba,l0.length*4+3,none⟩=false∧w2.cell? ⟨ba,l0.length*4+1,none⟩=some (.int .i64 d.year)∧W1.grownBy w2 (blk p)∧
   DInv bd (l0++[({d with calls:=d.calls++[c]},some ⟨g',0,none⟩,cap')]) (w2.setCell ⟨ba,l0.length*4+3,none⟩ (.slice (some ⟨g',0,none⟩) (d.calls.length+1) cap')) v∧
   BelowE bd (Dx bd v (l0++[(d,p)])) W (w2.setCell ⟨ba,l0.length*4+3,none⟩ (.slice (some ⟨g',0,none⟩) (d.calls.length+1) cap'))∧W.heap.size<=w2.heap.size∧
   (∀i,Dx bd v (l0++[({d with calls:=d.calls++[c]},some ⟨g',0,none⟩,cap')]) i->Dx bd v (l0++[(d,p)]) i∨W1.heap.size<=i):=by
 have hlen:(l0++[(d,p)]).length=l0.length+1:=by simp
 have hrow:=h.row
 rw[hlen]at hrow
 obtain⟨ba,cp,rfl⟩:=ownsRow_succ hrow
 have hob:(Value.slice (some ⟨ba,0,none⟩) (l0.length+1) cp).ownBlock=some ba:=rfl
 have hcell: ∀W1,Below W.heap.size W W1-> ∀j u,(encDd (d,p))[j]?=some u->W1.cell? ⟨ba,l0.length*4+j,none⟩=some u:=by
  intro W1 hb j u hu
  have hf:=flat_at encDd 4 (fun _=>rfl) (l:=l0++[(d,p)]) (k:=l0.length) (x:=(d,p)) (by simp) hu
  have:=(own_below hrow hb).cells hob _ u hf
  rwa[Go.WideShapes.add_plain,Nat.zero_add]at this
 have hfroz: ∀W1,Below W.heap.size W W1-> ∀j,W1.frozen? ⟨ba,j,none⟩=false:=by
  intro W1 hb j
  rcases(own_below hrow hb).2 with ⟨h2,_⟩|⟨g,cap,cur,h2,_,h4,_⟩
  ·cases h2
  ·have:ba=g:=by simp at h2;exact h2.1
   subst this
   exact(blk_cells h4).2 j
 refine⟨ba,cp,rfl,hcell W (Below.refl _ _) 1 _ rfl,hcell W (Below.refl _ _) 3 _ rfl,fun W1 hb=>⟨hcell W1 hb 1 _ rfl,hcell W1 hb 3 _ rfl,hfroz W1 hb _⟩,fun W1 hb=> ?_⟩
 have h1:=h.below hb
 have hown1:W1.ownsRow (bd+1) 48 13 (slv p d.calls.length) d.calls.length (d.calls.flatMap encCl):=h1.own (d,p) (by simp)
 have hrow1:=h1.row
 rw[hlen]at hrow1
 obtain⟨g',cap',w2,hrun,hown,hg,hat⟩:=own_app2 lay_cl hown1 [c] 0 rfl (encCl c).toArray (by simp) (by unfold maxLen;omega) (by omega) h1.lt
 rw[slv_own]at hg hat
 have hpa:blk p≠some ba:=by
  have:=own_apart hrow1 hown1 (by decide)
  rw[slv_own,hob]at this
  rcases this with h|h
  ·rw[h];simp
  ·exact h
 have hrow2:w2.ownsRow (bd+1) 90 4 (.slice (some ⟨ba,0,none⟩) (l0.length+1) cp) (l0.length+1) ((l0++[(d,p)]).flatMap encDd):=hrow1.kept hg (.inr (by rw[hob];exact fun e=>hpa e.symm))
 have hgba:g'≠ba:=by
  rcases hat with h'|h'
  ·rintro rfl;exact hpa h'
  ·have:=(hrow1.lt ba hob).2
   omega
 have hc3:w2.cell? ⟨ba,l0.length*4+3,none⟩=some (slv p d.calls.length):=by
  have hf:=flat_at encDd 4 (fun _=>rfl) (l:=l0++[(d,p)]) (k:=l0.length) (x:=(d,p)) (j:=3) (by simp) rfl
  have:=hrow2.cells hob _ _ hf
  rwa[Go.WideShapes.add_plain,Nat.zero_add]at this
 have hbx:w2.heap[bd]?=some (.cells #[.slice (some ⟨ba,0,none⟩) (l0.length+1) cp] 38 (0,0)):=(hg.block bd h1.lt (by
  have:=own_ne hown1 h1.box (by decide)
  rw[slv_own]at this
  exact this.symm)).trans h1.box
 have hgs:=grown_set w2 ba (l0.length*4+3) (.slice (some ⟨g',0,none⟩) (d.calls.length+1) cap')
 have hbaS:=(hrow2.lt ba hob)
 have hsz1:=hb.size
 have hc1:w2.cell? ⟨ba,l0.length*4+1,none⟩=some (.int .i64 d.year):=by
  have hf:=flat_at encDd 4 (fun _=>rfl) (l:=l0++[(d,p)]) (k:=l0.length) (x:=(d,p)) (j:=1) (by simp) rfl
  have:=hrow2.cells hob _ _ hf
  rwa[Go.WideShapes.add_plain,Nat.zero_add]at this
 refine⟨g',cap',w2,hrun,hc3,?_,hc1,hg,⟨?_,?_,fun x hx=> ?_,fun i j x y g hi hj hx hy=> ?_⟩,⟨?_,fun i hi hx=> ?_⟩,Nat.le_trans hb.size hg.size,fun i hi=> ?_⟩
 ·rcases hrow2.2 with ⟨h2,_⟩|⟨g,cap,cur,h2,_,h4,_⟩
  ·cases h2
  ·have:ba=g:=by simp at h2;exact h2.1
   subst this
   exact(blk_cells h4).2 _
 ·rw[Below.heap_setCell _ _ _ _ (by simp;omega)]
  exact hbx
 ·have:=row_put (j:=l0.length*4+3) (u:=.slice (some ⟨g',0,none⟩) (d.calls.length+1) cap') hrow2 hob
  have hs:=set_last l0 d p (some ⟨g',0,none⟩,cap') (d.calls++[c])
  rw[show slv (some ⟨g',0,none⟩,cap') (d.calls++[c]).length=.slice (some ⟨g',0,none⟩) (d.calls.length+1) cap' from by simp[slv]]at hs
  rw[hs]at this
  rw[List.length_append]
  exact this
 ·rcases List.mem_append.1 hx with hx'|hx'
  ·have hox:=h1.own x (by simp[hx'])
   obtain⟨i,hi,hix⟩:=List.mem_iff_getElem.1 hx'
   have hne:(slv x.2 x.1.calls.length).ownBlock=none∨(slv x.2 x.1.calls.length).ownBlock≠blk p:=by
    rw[slv_own]
    cases hx2:blk x.2 with
    |none=>exact .inl rfl
    |some g=>
     refine .inr fun e=> ?_
     have:=h1.one i l0.length x (d,p) g (by rw[List.getElem?_append_left hi,List.getElem?_eq_getElem hi,hix]) (by simp) hx2 e.symm
     omega
   have hox2:=hox.kept hg hne
   refine hox2.kept hgs (.inr fun e=> ?_)
   rcases hrow2.2 with ⟨h2,_⟩|⟨g,cap,cur,h2,_,h4,_⟩
   ·cases h2
   ·have:ba=g:=by simp at h2;exact h2.1
    subst this
    exact own_ne hox2 h4 (by decide) e
  ·have:x=({d with calls:=d.calls++[c]},some ⟨g',0,none⟩,cap'):=by simpa using hx'
   subst this
   have:=hown.kept hgs (.inr (by simp[Value.ownBlock];exact hgba))
   simpa [slv]using this
 ·have key: ∀(i:Nat) (x:Pl.Ded×Option Addr×Nat),(l0++[(({d with calls:=d.calls++[c]}:Pl.Ded),some ⟨g',0,none⟩,cap')])[i]?=some x->(i<l0.length∧(l0++[(d,p)])[i]?=some x)∨(i=l0.length∧x=({d with calls:=d.calls++[c]},some ⟨g',0,none⟩,cap')):=by
   intro i x hi
   rw[List.getElem?_append]at hi
   split at hi
   ·rename_i hl
    exact .inl ⟨hl,by rw[List.getElem?_append_left hl];exact hi⟩
   ·rename_i hl
    cases hi':i-l0.length with
    |zero=>rw[hi']at hi;simp at hi;exact .inr ⟨by omega,hi.symm⟩
    |succ k=>rw[hi']at hi;simp at hi
  have old: ∀(i:Nat) (x:Pl.Ded×Option Addr×Nat),i<l0.length->(l0++[(d,p)])[i]?=some x->blk x.2≠some g':=by
   intro i x hi hx e
   rcases hat with h|h
   ·have:=h1.one i l0.length x (d,p) g' hx (by simp) e h
    omega
   ·have hm:x∈l0++[(d,p)]:=List.mem_of_getElem? hx
    have:=((h1.own x hm).lt g' (by rw[slv_own];exact e)).2
    omega
  rcases key i x hi with ⟨a1,a2⟩|⟨a1,rfl⟩<;>rcases key j y hj with ⟨b1,b2⟩|⟨b1,rfl⟩
  ·exact h1.one i j x y g a2 b2 hx hy
  ·exact absurd (hx.trans hy.symm) (old i x a1 a2)
  ·exact absurd (hy.trans hx.symm) (old j y b1 b2)
  ·omega
 ·have hB:Below bd W1 w2:=⟨hg.os,hg.tape,hg.output,hg.size,fun k hk'=>hg.block k (by have:=h1.lt;omega) (fun e=>by
   have:=(hown1.lt k (by rw[slv_own];exact e.symm)).1
   omega)⟩
  exact((hb.mono (Nat.le_of_lt h.lt)).trans hB).setCell (p:=⟨ba,l0.length*4+3,none⟩) (by have:=hbaS.1;simp;omega) _
 ·rw[Below.heap_setCell _ _ _ _ (by rintro rfl;exact hx (.inr (.inl rfl)))]
  exact(hg.block i (by omega) (fun e=>hx (.inr (.inr ⟨(d,p),by simp,e.symm⟩)))).trans (hb.block i hi)
 ·rcases hi with rfl|hi|⟨x,hx,hi⟩
  ·exact .inl (.inl rfl)
  ·exact .inl (.inr (.inl hi))
  ·rcases List.mem_append.1 hx with hx|hx
   ·exact .inl (.inr (.inr ⟨x,by simp[hx],hi⟩))
   ·have:x=({d with calls:=d.calls++[c]},some ⟨g',0,none⟩,cap'):=by simpa using hx
    subst this
    have hi:g'=i:=by simpa [blk]using hi
    subst hi
    rcases hat with h'|h'
    ·exact .inl (.inr (.inr ⟨(d,p),by simp,h'⟩))
    ·exact .inr (by omega)
end
end Go.Proofs.YtgbpekeoegfjpaaGreatDoor
namespace Go.Proofs.YtgbpekeoegfjpaaGreatDoor
open Go.RowKit
abbrev Dds := @Seg (Pl.Ded×Option Addr×Nat) encDd 4
theorem Dds.at4 {w:World}{B:Nat}{A:Option Addr}{l:List (Pl.Ded×Option Addr×Nat)}(h:Dds w B A l){k:Nat}(hk:k<l.length):
  ∃b off,A=some ⟨b,off,none⟩∧b<B∧w.cell? ⟨b,off+k*4,none⟩=some (.string l[k].1.name)∧w.cell? ⟨b,off+k*4+1,none⟩=some (.int .i64 l[k].1.year)∧
   w.cell? ⟨b,off+k*4+2,none⟩=some (.int .i64 l[k].1.rank)∧w.cell? ⟨b,off+k*4+3,none⟩=some (slv l[k].2 l[k].1.calls.length):=by
 obtain⟨b,off,hA,hb,hc⟩:=Seg.at_ h hk
 exact⟨b,off,hA,hb,hc 0 _ rfl,hc 1 _ rfl,hc 2 _ rfl,hc 3 _ rfl⟩
theorem idxF_d (A:Option Addr)(c:Nat)(l:List (Pl.Ded×Option Addr×Nat))(g:FuncId)(cap:Array Value)(p:(Pl.Ded×Option Addr×Nat)->Bool)(w:World)(hl:Seg encDd 4 w w.heap.size A l)(hm:l.length<=1000000)
  (hen: ∀args w,(callFunc g args).run Tryz.prog w=.ok (.enter g args) w)
  (hp: ∀x∈l,∀W,Below w.heap.size w W->Calls Tryz.prog g (#[.agg #[.string x.1.name,.int .i64 x.1.year,.int .i64 x.1.rank,slv x.2 x.1.calls.length]]++cap) W fun e W'=>e=.returned (.bool (p x))∧Below W.heap.size W W'):
  Calls Tryz.prog 184 #[.slice A l.length c,.func (.func g) #[] cap] w fun e w'=>e=.returned (.int .i64 (Pl.pos (Pl.idx p l)))∧Below w.heap.size w w':=by
 go_enter Tryz.func184,Tryz.ntmps184
 go_wp2
 go_loopw [8] (fun i wr=> ∃(k:Nat),k<=l.length∧i=.int .i64 k∧Hid (∀j (h:j<l.length),j<k->p l[j]=false)∧Below w.heap.size w wr) (fun i _=>l.length-(intOf i).toNat)
 case atStart=>exact⟨0,by omega,rfl,Lib.hid fun j _ h=>by omega,by go_grown⟩
 case round=>
  obtain⟨k,hk,rfl,hg,hb⟩:=hrel
  have hsz:=hb.size
  by_cases hlt:k<l.length
  ·obtain⟨b,off,rfl,hbB,q0,q1,q2,q3⟩:=Dds.at4 (hl.below hb) hlt
   have hpk:=Lib.hid (hp l[k] (List.getElem_mem hlt))
   cases hc:p l[k]with
   |true=>
    have hv:=Lib.hid (Pl.idx_hit (p:=p) hlt (fun j hj=>hg.out j (by omega) hj) hc)
    have HC:=Lib.hid hc
    clear hc
    go_wp2
    refine(hpk.out _ (by go_grown)).mono ?_
    rintro e w2 ⟨rfl,hx⟩
    rw[HC.out]
    have hb2:Below w.heap.size w w2:=Below.trans (by go_grown) (hx.mono (by go_size))
    clear hx
    go_wp2
    go_ret
    exact⟨by rw[hv.out];try rfl,hb2⟩
   | false=>
    have HC:=Lib.hid hc
    clear hc
    go_wp2
    refine(hpk.out _ (by go_grown)).mono ?_
    rintro e w2 ⟨rfl,hx⟩
    rw[HC.out]
    have hb2:Below w.heap.size w w2:=Below.trans (by go_grown) (hx.mono (by go_size))
    clear hx
    go_wp2
    go_roundw
    case rel=>exact⟨k+1,by omega,by go_num,Lib.hid fun j h hj=>by
     by_cases e:j=k
     ·subst e;exact HC.out
     ·exact hg.out j h (by omega),hb2⟩
    case measure=>first|(simp[intOf];done)|(simp[intOf];omega)
  ·have hv:=Lib.hid (Pl.idx_none (p:=p) (l:=l) fun j hj=>hg.out j hj (by omega))
   go_wp2
   go_ret
   exact⟨by rw[hv.out];try rfl,by go_grown⟩
theorem conF_d (A:Option Addr)(c:Nat)(l:List (Pl.Ded×Option Addr×Nat))(g:FuncId)(cap:Array Value)(p:(Pl.Ded×Option Addr×Nat)->Bool)(w:World)(hl:Seg encDd 4 w w.heap.size A l)(hm:l.length<=1000000)
  (hen: ∀args w,(callFunc g args).run Tryz.prog w=.ok (.enter g args) w)
  (hp: ∀x∈l,∀W,Below w.heap.size w W->Calls Tryz.prog g (#[.agg #[.string x.1.name,.int .i64 x.1.year,.int .i64 x.1.rank,slv x.2 x.1.calls.length]]++cap) W fun e W'=>e=.returned (.bool (p x))∧Below W.heap.size W W'):
  Calls Tryz.prog 124 #[.slice A l.length c,.func (.func g) #[] cap] w fun e w'=>e=.returned (.bool (l.any p))∧Below w.heap.size w w':=by
 have HV:Hid (decide (0<=Pl.pos (Pl.idx p l))=l.any p):=by unfold Hid;rw[Pl.pos_ge,Pl.idx_any]
 go_enter Tryz.func124,Tryz.ntmps124
 go_wp2_with (go_at_call 184;refine(idxF_d A c l g cap p w hl hm hen hp).mono ?_;rintro e w1 ⟨rfl,hx1⟩;have hb1:Below w.heap.size w w1:=Below.trans (by go_grown) (hx1.mono (by go_size));clear hx1;have hsz1:w.heap.size<=w1.heap.size:=hb1.size)
 go_ret
 exact⟨ret_bool (by rw[<-HV.out]),by go_grown⟩
end Go.Proofs.YtgbpekeoegfjpaaGreatDoor
set_option maxRecDepth 100000
namespace Go.Proofs.YtgbpekeoegfjpaaGreatDoor
open Go.RowKit
variable (A1 A2 A3 A4 : Option Addr) (c1 c2 c3 c4 : Nat) (f : Pl.Fld)
attribute [-go_sem] Builtin.append_ run_equalIn_agg
theorem isDed_a (bx:Nat)(n:ByteArray)(y r:Int)(x:Pl.Ded×Option Addr×Nat)(w:World)(hb:w.heap[bx]?=some (.cells #[.string n,.int .i64 y,.int .i64 r,.slice none 0 0] 90 (0,0))):
  Calls Tryz.prog 161 #[.agg #[.string x.1.name,.int .i64 x.1.year,.int .i64 x.1.rank,slv x.2 x.1.calls.length],.pointer (some ⟨bx,0,none⟩)] w fun e w'=>e=.returned (.bool (decide (x.1.name=n)))∧Below w.heap.size w w':=by
 obtain⟨hc,hf⟩:=blk_cells hb
 have hlt:=(lO hb)
 unfold slv
 go_enter Tryz.func161,Tryz.ntmps161
 go_wp2
 go_ret
 exact⟨ret_bool (str_same x.1.name n),by go_grown⟩
def EndD (bd:Nat)(l:List (Pl.Ded×Option Addr×Nat))(v:Value)(w:World)(r:Except Int (List Pl.Ded))(e:Ending)(w':World):Prop:=
 BelowE bd (Dx bd v l) w w'∧match r with
  | .ok ds=>e=.returned (.int .i64 0)∧ ∃l' v',l'.map (·.1)=ds∧DInv bd l' w' v'∧ ∀i,Dx bd v' l' i->Dx bd v l i∨w.heap.size<=i
  | .error E=>e=.returned (.int .i64 E)
structure DSt (w W:World):Prop where
 below:Below w.heap.size w W
 sz:w.heap.size+2<=W.heap.size
 ke:W.heap[w.heap.size+1]?=some (.cells #[.int .i64 0] 29 (0,0))
theorem DSt.grown {w W W':World}{b:Nat}(h:DSt w W)(hg:W.grownBy W' (some b))(hb:w.heap.size+2<=b):DSt w W':=
 ⟨h.below.grown hg h.below.size (fun k e=>by cases e;omega),Nat.le_trans h.sz hg.size,(hg.block _ (by have:=h.sz;omega) (by simp;omega)).trans h.ke⟩
theorem DSt.up {w W W':World}(h:DSt w W)(hb:Below W.heap.size W W'):DSt w W':=
 ⟨h.below.trans (hb.mono h.below.size),Nat.le_trans h.sz hb.size,(hb.block _ (by have:=h.sz;omega)).trans h.ke⟩
theorem DSt.alloc {w W:World}(h:DSt w W)(o:Obj):DSt w (W.alloc o):=h.up ((Below.refl _ W).alloc (Nat.le_refl _) o)
theorem DSt.endE {w W:World}{bd:Nat}{X:Nat->Prop}(h:DSt w W)(hb:bd<=w.heap.size)(u:Value):BelowE bd X w (W.setCell ⟨w.heap.size+1,0,none⟩ u):=
 .of_below (h.below.setCell (p:=⟨w.heap.size+1,0,none⟩) (by simp) u) hb
theorem rd_new (fc:Array Value)(ws:List ByteArray)(w:World)(A':Option Addr)(c':Nat)(hn:Nms w w.heap.size A' ws)(hl:ws.length<=c'):
  Rd (((w.alloc (.cells fc 28)).alloc (.cells #[.int .i64 0] 29)).alloc (.cells #[.slice A' ws.length c'] 188)) (w.heap.size+1+1) ws∧
   DSt w (((w.alloc (.cells fc 28)).alloc (.cells #[.int .i64 0] 29)).alloc (.cells #[.slice A' ws.length c'] 188)):=by
 have ke:=heap_alloc2_new w (.cells fc 28) (.cells #[.int .i64 0] 29)
 have hb0:Below w.heap.size w ((w.alloc (.cells fc 28)).alloc (.cells #[.int .i64 0] 29)):=((Below.refl _ w).alloc (Nat.le_refl _) _).alloc (by simp) _
 have hz:((w.alloc (.cells fc 28)).alloc (.cells #[.int .i64 0] 29)).heap.size=w.heap.size+1+1:=by simp
 have s0:DSt w ((w.alloc (.cells fc 28)).alloc (.cells #[.int .i64 0] 29)):=⟨hb0,by omega,ke⟩
 have s1:=s0.alloc (.cells #[.slice A' ws.length c'] 188)
 refine⟨⟨A',c',?_,(hn.below s1.below).more (by omega),hl⟩,s1⟩
 have:=heap_alloc_new ((w.alloc (.cells fc 28)).alloc (.cells #[.int .i64 0] 29)) (.cells #[.slice A' ws.length c'] 188)
 rwa[hz]at this
set_option maxHeartbeats 4000000 in
theorem dedL_nil (bd:Nat)(l:List (Pl.Ded×Option Addr×Nat))(v:Value)(A:Option Addr)(c:Nat)(w:World)(_hEv:Env w)(hD:DInv bd l w v)(_h8:8<=bd)
  (hw:Nms w w.heap.size A ([Pl.wDeed])) (_hc:1<=c):
  Calls Tryz.prog 88 #[.agg (fq A1 A2 A3 A4 c1 c2 c3 c4 f),.pointer (some ⟨bd,0,none⟩),.slice A 1 c] w fun e w'=>BelowE bd (Dx bd v l) w w'∧e=.returned (.int .i64 4):=by
 have hbd:=hD.lt
 obtain⟨b,off,rfl,hb,q0⟩:=Nms.at1 hw (k:=0) (by simp)
 simp only[Nat.add_zero,List.getElem_cons_zero]at q0
 unfold Pl.wDeed at q0
 have e1:(0:Int)<((0:Nat):Int)+1:=by omega
 have hR:=fun A' c' hn hl=>rd_new (fq A1 A2 A3 A4 c1 c2 c3 c4 f) [] w A' c' hn hl
 have hn:=fun W hR=>(name_a (w.heap.size+1+1) [] W hR ⟨by simp,by simp⟩:Calls Tryz.prog 157 #[.pointer (some ⟨w.heap.size+1+1,0,none⟩)] W (EndR (fun x=> .string x) (w.heap.size+1+1) W none))
 go_enter_defers Tryz.func88,Tryz.ntmps88
 go_wp2_with fail
 all_goals (
  first
   |(obtain⟨hR0,s0⟩:=hR (some ⟨b,off,none⟩) 0 (.inl rfl) (by simp);refine(hn _ hR0).mono ?_)
   |(obtain⟨hR0,s0⟩:=hR (some ⟨b,off+1,none⟩) (c-1) (.inl rfl) (by simp);refine(hn _ hR0).mono ?_)
  rintro e w1 ⟨hg1,rfl⟩
  have s1:=s0.grown hg1 (by omega)
  go_wp2_with fail
  refine leaves_cons (f:=96) (args:= #[.pointer (some ⟨w.heap.size+1,0,none⟩)]) (by simp) (by simp[go_sem]) ?_
  refine(caught_up _ _ _ _ s1.ke).mono ?_
  rintro e u' w'' ⟨rfl,rfl,rfl⟩
  have ke4:=heap_setCell_same _ (w.heap.size+1) 0 _ _ (.int .i64 4) s1.ke
  obtain⟨hce,hfe⟩:=blk_cells ke4
  exact⟨.int .i64 4,by simp[results,Tryz.results88,go_sem,hce],s1.endE (Nat.le_of_lt hbd) _,rfl⟩)
set_option maxHeartbeats 4000000 in
theorem dedL_name (bd:Nat)(l:List (Pl.Ded×Option Addr×Nat))(v:Value)(A:Option Addr)(c:Nat)(ws:List ByteArray)(w:World)(_hEv:Env w)(hD:DInv bd l w v)(_h8:8<=bd)
  (hw:Nms w w.heap.size A (Pl.wDeed::ws)) (hc:ws.length+1<=c) (hs:Sizes ws) (h1:nameR ws=none) (hne:ws≠ []):
  Calls Tryz.prog 88 #[.agg (fq A1 A2 A3 A4 c1 c2 c3 c4 f),.pointer (some ⟨bd,0,none⟩),.slice A (ws.length+1) c] w fun e w'=>BelowE bd (Dx bd v l) w w'∧e=.returned (.int .i64 4):=by
 have hbd:=hD.lt
 obtain⟨b,off,rfl,hb,q0⟩:=Nms.at1 hw (k:=0) (by simp)
 simp only[Nat.add_zero,List.getElem_cons_zero]at q0
 unfold Pl.wDeed at q0
 have e1:(0:Int)<((ws.length:Nat):Int)+1:=by omega
 obtain⟨hr1,hr2⟩:=rest_of hw hc
 have hR:=fun A' c' hn hl=>rd_new (fq A1 A2 A3 A4 c1 c2 c3 c4 f) ws w A' c' hn hl
 have hn:=fun W hR=>(h1▸name_a (w.heap.size+1+1) ws W hR hs:Calls Tryz.prog 157 #[.pointer (some ⟨w.heap.size+1+1,0,none⟩)] W (EndR (fun x=> .string x) (w.heap.size+1+1) W none))
 have hc1: ¬c=1:=fun h=>hne (hr1 h)
 clear h1
 go_enter_defers Tryz.func88,Tryz.ntmps88
 go_wp2_with fail
 obtain⟨hR0,s0⟩:=hR (some ⟨b,off+1,none⟩) (c-1) (hr2 ‹_›).1 (hr2 ‹_›).2
 refine(hn _ hR0).mono ?_
 rintro e w1 ⟨hg1,rfl⟩
 have s1:=s0.grown hg1 (by omega)
 go_wp2_with fail
 refine leaves_cons (f:=96) (args:= #[.pointer (some ⟨w.heap.size+1,0,none⟩)]) (by simp) (by simp[go_sem]) ?_
 refine(caught_up _ _ _ _ s1.ke).mono ?_
 rintro e u' w'' ⟨rfl,rfl,rfl⟩
 have ke4:=heap_setCell_same _ (w.heap.size+1) 0 _ _ (.int .i64 4) s1.ke
 obtain⟨hce,hfe⟩:=blk_cells ke4
 exact⟨.int .i64 4,by simp[results,Tryz.results88,go_sem,hce],s1.endE (Nat.le_of_lt hbd) _,rfl⟩
set_option maxHeartbeats 4000000 in
theorem dedL_num1 (bd:Nat)(l:List (Pl.Ded×Option Addr×Nat))(v:Value)(A:Option Addr)(c:Nat)(ws:List ByteArray)(w:World)(hEv:Env w)(hD:DInv bd l w v)(h8:8<=bd)
  (hw:Nms w w.heap.size A (Pl.wDeed::ws)) (hc:ws.length+1<=c) (hs:Sizes ws) (a:ByteArray) (r:List ByteArray) (h1:nameR ws=some (a,r)) (h2:numR r=none):
  Calls Tryz.prog 88 #[.agg (fq A1 A2 A3 A4 c1 c2 c3 c4 f),.pointer (some ⟨bd,0,none⟩),.slice A (ws.length+1) c] w fun e w'=>BelowE bd (Dx bd v l) w w'∧e=.returned (.int .i64 4):=by
 have hbd:=hD.lt
 obtain⟨b,off,rfl,hb,q0⟩:=Nms.at1 hw (k:=0) (by simp)
 simp only[Nat.add_zero,List.getElem_cons_zero]at q0
 unfold Pl.wDeed at q0
 have e1:(0:Int)<((ws.length:Nat):Int)+1:=by omega
 obtain⟨hr1,hr2⟩:=rest_of hw hc
 have hR:=fun A' c' hn hl=>rd_new (fq A1 A2 A3 A4 c1 c2 c3 c4 f) ws w A' c' hn hl
 obtain⟨rfl,ha⟩:=nameR_inv h1
 obtain⟨_,_,hs1⟩:=hs.tail
 have hc1: ¬c=1:=by simp at hc;omega
 have hn:=fun W hR=>(h1▸name_a (w.heap.size+1+1) (a::r) W hR hs:Calls Tryz.prog 157 #[.pointer (some ⟨w.heap.size+1+1,0,none⟩)] W (EndR (fun x=> .string x) (w.heap.size+1+1) W (some (a,r))))
 have hn2:=fun W hE hR=>(h2▸number_a (w.heap.size+1+1) r W hE hR (by omega) hs1:Calls Tryz.prog 158 #[.pointer (some ⟨w.heap.size+1+1,0,none⟩)] W (EndR (fun v=> .int .i64 v) (w.heap.size+1+1) W none))
 clear h1 h2 ha
 go_enter_defers Tryz.func88,Tryz.ntmps88
 go_wp2_with fail
 ·obtain⟨hR0,s0⟩:=hR (some ⟨b,off+1,none⟩) (c-1) (hr2 ‹_›).1 (hr2 ‹_›).2
  have hwz:w.heap.size+1+1<(((w.alloc (.cells (fq A1 A2 A3 A4 c1 c2 c3 c4 f) 28)).alloc (.cells #[.int .i64 0] 29)).alloc (.cells #[.slice (some ⟨b,off+1,none⟩) (a::r).length (c-1)] 188)).heap.size:=by simp
  generalize ((w.alloc (.cells (fq A1 A2 A3 A4 c1 c2 c3 c4 f) 28)).alloc (.cells #[.int .i64 0] 29)).alloc (.cells #[.slice (some ⟨b,off+1,none⟩) (a::r).length (c-1)] 188)=Wr at*
  clear hR hr1 hr2
  go_wp2_with (first
   |(go_at_call 157;refine(hn _ hR0).mono ?_;rintro e w1 ⟨hg1,rfl,hR1⟩;have s1:=(s0.grown hg1 (by omega)).alloc (.cells #[.string a,.int .i64 0,.int .i64 0,.slice none 0 0] 90);have hsz1:=hg1.size;have kx:=heap_alloc_new w1 (.cells #[.string a,.int .i64 0,.int .i64 0,.slice none 0 0] 90);have hR1:=hR1.below (w':=w1.alloc (.cells #[.string a,.int .i64 0,.int .i64 0,.slice none 0 0] 90)) (by go_grown);clear hn)
   |(go_at_call 158;refine(hn2 _ (hEv.up s1.below) hR1).mono ?_;rintro e w2 ⟨hg2,rfl⟩))
  have s9:=s1.grown hg2 (by omega)
  refine leaves_cons (f:=96) (args:= #[.pointer (some ⟨w.heap.size+1,0,none⟩)]) (by simp) (by simp[go_sem]) ?_
  refine(caught_up _ _ _ _ s9.ke).mono ?_
  rintro e u' w'' ⟨rfl,rfl,rfl⟩
  have ke4:=heap_setCell_same _ (w.heap.size+1) 0 _ _ (.int .i64 4) s9.ke
  obtain⟨hce,hfe⟩:=blk_cells ke4
  exact⟨.int .i64 4,by simp[results,Tryz.results88,go_sem,hce],s9.endE (Nat.le_of_lt hbd) _,rfl⟩
set_option maxHeartbeats 4000000 in
theorem dedL_num2 (bd:Nat)(l:List (Pl.Ded×Option Addr×Nat))(v:Value)(A:Option Addr)(c:Nat)(ws:List ByteArray)(w:World)(hEv:Env w)(hD:DInv bd l w v)(h8:8<=bd)
  (hw:Nms w w.heap.size A (Pl.wDeed::ws)) (hc:ws.length+1<=c) (hs:Sizes ws) (a:ByteArray) (r r2:List ByteArray) (y:Int) (h1:nameR ws=some (a,r)) (h2:numR r=some (y,r2)) (h3:numR r2=none):
  Calls Tryz.prog 88 #[.agg (fq A1 A2 A3 A4 c1 c2 c3 c4 f),.pointer (some ⟨bd,0,none⟩),.slice A (ws.length+1) c] w fun e w'=>BelowE bd (Dx bd v l) w w'∧e=.returned (.int .i64 4):=by
 have hbd:=hD.lt
 obtain⟨b,off,rfl,hb,q0⟩:=Nms.at1 hw (k:=0) (by simp)
 simp only[Nat.add_zero,List.getElem_cons_zero]at q0
 unfold Pl.wDeed at q0
 have e1:(0:Int)<((ws.length:Nat):Int)+1:=by omega
 obtain⟨hr1,hr2⟩:=rest_of hw hc
 have hR:=fun A' c' hn hl=>rd_new (fq A1 A2 A3 A4 c1 c2 c3 c4 f) ws w A' c' hn hl
 obtain⟨rfl,ha⟩:=nameR_inv h1
 obtain⟨_,_,hs1⟩:=hs.tail
 have hc1: ¬c=1:=by simp at hc;omega
 have hn:=fun W hR=>(h1▸name_a (w.heap.size+1+1) (a::r) W hR hs:Calls Tryz.prog 157 #[.pointer (some ⟨w.heap.size+1+1,0,none⟩)] W (EndR (fun x=> .string x) (w.heap.size+1+1) W (some (a,r))))
 obtain⟨y',rfl,hy⟩:=numR_inv h2
 obtain⟨_,_,hs2⟩:=hs1.tail
 have hn2:=fun W hE hR=>(h2▸number_a (w.heap.size+1+1) (y'::r2) W hE hR (by omega) hs1:Calls Tryz.prog 158 #[.pointer (some ⟨w.heap.size+1+1,0,none⟩)] W (EndR (fun v=> .int .i64 v) (w.heap.size+1+1) W (some (y,r2))))
 have hn3:=fun W hE hR=>(h3▸number_a (w.heap.size+1+1) r2 W hE hR (by omega) hs2:Calls Tryz.prog 158 #[.pointer (some ⟨w.heap.size+1+1,0,none⟩)] W (EndR (fun v=> .int .i64 v) (w.heap.size+1+1) W none))
 clear h1 h2 hy h3 ha
 go_enter_defers Tryz.func88,Tryz.ntmps88
 go_wp2_with fail
 ·obtain⟨hR0,s0⟩:=hR (some ⟨b,off+1,none⟩) (c-1) (hr2 ‹_›).1 (hr2 ‹_›).2
  have hwz:w.heap.size+1+1<(((w.alloc (.cells (fq A1 A2 A3 A4 c1 c2 c3 c4 f) 28)).alloc (.cells #[.int .i64 0] 29)).alloc (.cells #[.slice (some ⟨b,off+1,none⟩) (a::y'::r2).length (c-1)] 188)).heap.size:=by simp
  generalize ((w.alloc (.cells (fq A1 A2 A3 A4 c1 c2 c3 c4 f) 28)).alloc (.cells #[.int .i64 0] 29)).alloc (.cells #[.slice (some ⟨b,off+1,none⟩) (a::y'::r2).length (c-1)] 188)=Wr at*
  clear hR hr1 hr2
  go_wp2_with (first
   |(go_at_call 157;refine(hn _ hR0).mono ?_;rintro e w1 ⟨hg1,rfl,hR1⟩;have s1:=(s0.grown hg1 (by omega)).alloc (.cells #[.string a,.int .i64 0,.int .i64 0,.slice none 0 0] 90);have hsz1:=hg1.size;have kx:=heap_alloc_new w1 (.cells #[.string a,.int .i64 0,.int .i64 0,.slice none 0 0] 90);have hR1:=hR1.below (w':=w1.alloc (.cells #[.string a,.int .i64 0,.int .i64 0,.slice none 0 0] 90)) (by go_grown);clear hn)
   |(go_at_call 158;refine(hn2 _ (hEv.up s1.below) hR1).mono ?_;rintro e w2 ⟨hg2,rfl,hR2⟩;have kx:=(hg2.block w1.heap.size (by simp) (by simp;omega)).trans kx;obtain⟨hcx,hfx⟩:=blk_cells kx;have s2:=(s1.grown hg2 (by omega)).grown (grown_set w2 w1.heap.size 1 (.int .i64 y)) (by omega);have hR3:=hR2.kept (grown_set w2 w1.heap.size 1 (.int .i64 y)) (by omega);have kx2:=heap_setCell_same w2 w1.heap.size 1 _ _ (.int .i64 y) kx;clear hn2)
   |(go_at_call 158;refine(hn3 _ (hEv.up s2.below) hR3).mono ?_;rintro e w3 ⟨hg3,rfl⟩))
  have s9:=s2.grown hg3 (by omega)
  refine leaves_cons (f:=96) (args:= #[.pointer (some ⟨w.heap.size+1,0,none⟩)]) (by simp) (by simp[go_sem]) ?_
  refine(caught_up _ _ _ _ s9.ke).mono ?_
  rintro e u' w'' ⟨rfl,rfl,rfl⟩
  have ke4:=heap_setCell_same _ (w.heap.size+1) 0 _ _ (.int .i64 4) s9.ke
  obtain⟨hce,hfe⟩:=blk_cells ke4
  exact⟨.int .i64 4,by simp[results,Tryz.results88,go_sem,hce],s9.endE (Nat.le_of_lt hbd) _,rfl⟩
set_option maxHeartbeats 4000000 in
theorem dedL_end (bd:Nat)(l:List (Pl.Ded×Option Addr×Nat))(v:Value)(A:Option Addr)(c:Nat)(ws:List ByteArray)(w:World)(hEv:Env w)(hD:DInv bd l w v)(h8:8<=bd)
  (hw:Nms w w.heap.size A (Pl.wDeed::ws)) (hc:ws.length+1<=c) (hs:Sizes ws) (a x:ByteArray) (r r2 r3:List ByteArray) (y z:Int) (h1:nameR ws=some (a,r)) (h2:numR r=some (y,r2)) (h3:numR r2=some (z,x::r3)):
  Calls Tryz.prog 88 #[.agg (fq A1 A2 A3 A4 c1 c2 c3 c4 f),.pointer (some ⟨bd,0,none⟩),.slice A (ws.length+1) c] w fun e w'=>BelowE bd (Dx bd v l) w w'∧e=.returned (.int .i64 4):=by
 have hbd:=hD.lt
 obtain⟨b,off,rfl,hb,q0⟩:=Nms.at1 hw (k:=0) (by simp)
 simp only[Nat.add_zero,List.getElem_cons_zero]at q0
 unfold Pl.wDeed at q0
 have e1:(0:Int)<((ws.length:Nat):Int)+1:=by omega
 obtain⟨hr1,hr2⟩:=rest_of hw hc
 have hR:=fun A' c' hn hl=>rd_new (fq A1 A2 A3 A4 c1 c2 c3 c4 f) ws w A' c' hn hl
 obtain⟨rfl,ha⟩:=nameR_inv h1
 obtain⟨_,_,hs1⟩:=hs.tail
 have hc1: ¬c=1:=by simp at hc;omega
 have hn:=fun W hR=>(h1▸name_a (w.heap.size+1+1) (a::r) W hR hs:Calls Tryz.prog 157 #[.pointer (some ⟨w.heap.size+1+1,0,none⟩)] W (EndR (fun x=> .string x) (w.heap.size+1+1) W (some (a,r))))
 obtain⟨y',rfl,hy⟩:=numR_inv h2
 obtain⟨_,_,hs2⟩:=hs1.tail
 have hn2:=fun W hE hR=>(h2▸number_a (w.heap.size+1+1) (y'::r2) W hE hR (by omega) hs1:Calls Tryz.prog 158 #[.pointer (some ⟨w.heap.size+1+1,0,none⟩)] W (EndR (fun v=> .int .i64 v) (w.heap.size+1+1) W (some (y,r2))))
 have hn3:=fun W hE hR=>(h3▸number_a (w.heap.size+1+1) r2 W hE hR (by omega) hs2:Calls Tryz.prog 158 #[.pointer (some ⟨w.heap.size+1+1,0,none⟩)] W (EndR (fun v=> .int .i64 v) (w.heap.size+1+1) W (some (z,x::r3))))
 clear h1 h2 hy h3 ha
 go_enter_defers Tryz.func88,Tryz.ntmps88
 go_wp2_with fail
 ·obtain⟨hR0,s0⟩:=hR (some ⟨b,off+1,none⟩) (c-1) (hr2 ‹_›).1 (hr2 ‹_›).2
  have hwz:w.heap.size+1+1<(((w.alloc (.cells (fq A1 A2 A3 A4 c1 c2 c3 c4 f) 28)).alloc (.cells #[.int .i64 0] 29)).alloc (.cells #[.slice (some ⟨b,off+1,none⟩) (a::y'::r2).length (c-1)] 188)).heap.size:=by simp
  generalize ((w.alloc (.cells (fq A1 A2 A3 A4 c1 c2 c3 c4 f) 28)).alloc (.cells #[.int .i64 0] 29)).alloc (.cells #[.slice (some ⟨b,off+1,none⟩) (a::y'::r2).length (c-1)] 188)=Wr at*
  clear hR hr1 hr2
  go_wp2_with (first
   |(go_at_call 157;refine(hn _ hR0).mono ?_;rintro e w1 ⟨hg1,rfl,hR1⟩;have s1:=(s0.grown hg1 (by omega)).alloc (.cells #[.string a,.int .i64 0,.int .i64 0,.slice none 0 0] 90);have hsz1:=hg1.size;have kx:=heap_alloc_new w1 (.cells #[.string a,.int .i64 0,.int .i64 0,.slice none 0 0] 90);have hR1:=hR1.below (w':=w1.alloc (.cells #[.string a,.int .i64 0,.int .i64 0,.slice none 0 0] 90)) (by go_grown);clear hn)
   |(go_at_call 158;refine(hn2 _ (hEv.up s1.below) hR1).mono ?_;rintro e w2 ⟨hg2,rfl,hR2⟩;have kx:=(hg2.block w1.heap.size (by simp) (by simp;omega)).trans kx;obtain⟨hcx,hfx⟩:=blk_cells kx;have s2:=(s1.grown hg2 (by omega)).grown (grown_set w2 w1.heap.size 1 (.int .i64 y)) (by omega);have hR3:=hR2.kept (grown_set w2 w1.heap.size 1 (.int .i64 y)) (by omega);have kx2:=heap_setCell_same w2 w1.heap.size 1 _ _ (.int .i64 y) kx;clear hn2)
   |(go_at_call 158;refine(hn3 _ (hEv.up s2.below) hR3).mono ?_;rintro e w3 ⟨hg3,rfl,hR4⟩;have hsz2:=hg2.size;have kx3:=(hg3.block w1.heap.size (by simp at hsz2 ⊢;omega) (by simp;omega)).trans kx2;obtain⟨hcx3,hfx3⟩:=blk_cells kx3;have s3:=(s2.grown hg3 (by omega)).grown (grown_set w3 w1.heap.size 2 (.int .i64 z)) (by omega);have hR5:=hR4.kept (grown_set w3 w1.heap.size 2 (.int .i64 z)) (by omega);have kx4:=heap_setCell_same w3 w1.heap.size 2 _ _ (.int .i64 z) kx3;clear hn3)
   |(go_at_call 159;refine(end_no (w.heap.size+1+1) x r3 _ hR5).mono ?_;rintro e w4 ⟨rfl,hx4⟩))
  have s9:=s3.up hx4
  refine leaves_cons (f:=96) (args:= #[.pointer (some ⟨w.heap.size+1,0,none⟩)]) (by simp) (by simp[go_sem]) ?_
  refine(caught_up _ _ _ _ s9.ke).mono ?_
  rintro e u' w'' ⟨rfl,rfl,rfl⟩
  have ke4:=heap_setCell_same _ (w.heap.size+1) 0 _ _ (.int .i64 4) s9.ke
  obtain⟨hce,hfe⟩:=blk_cells ke4
  exact⟨.int .i64 4,by simp[results,Tryz.results88,go_sem,hce],s9.endE (Nat.le_of_lt hbd) _,rfl⟩
set_option maxHeartbeats 4000000 in
theorem dedL_lim (bd:Nat)(l:List (Pl.Ded×Option Addr×Nat))(v:Value)(A:Option Addr)(c:Nat)(ws:List ByteArray)(w:World)(hEv:Env w)(hD:DInv bd l w v)(h8:8<=bd)
  (hw:Nms w w.heap.size A (Pl.wDeed::ws)) (hc:ws.length+1<=c) (hs:Sizes ws) (a:ByteArray) (r r2:List ByteArray) (y z:Int) (h1:nameR ws=some (a,r)) (h2:numR r=some (y,r2)) (h3:numR r2=some (z,[])) (h4:decide ((l.length:Int)<60)=false):
  Calls Tryz.prog 88 #[.agg (fq A1 A2 A3 A4 c1 c2 c3 c4 f),.pointer (some ⟨bd,0,none⟩),.slice A (ws.length+1) c] w fun e w'=>BelowE bd (Dx bd v l) w w'∧e=.returned (.int .i64 2):=by
 have hbd:=hD.lt
 obtain⟨b,off,rfl,hb,q0⟩:=Nms.at1 hw (k:=0) (by simp)
 simp only[Nat.add_zero,List.getElem_cons_zero]at q0
 unfold Pl.wDeed at q0
 have e1:(0:Int)<((ws.length:Nat):Int)+1:=by omega
 obtain⟨hr1,hr2⟩:=rest_of hw hc
 have hR:=fun A' c' hn hl=>rd_new (fq A1 A2 A3 A4 c1 c2 c3 c4 f) ws w A' c' hn hl
 obtain⟨Al,cl,hv,hsg,hcl,_⟩:=own_seg lay_dd hD.row
 subst hv
 obtain⟨rfl,ha⟩:=nameR_inv h1
 obtain⟨_,_,hs1⟩:=hs.tail
 have hc1: ¬c=1:=by simp at hc;omega
 have hn:=fun W hR=>(h1▸name_a (w.heap.size+1+1) (a::r) W hR hs:Calls Tryz.prog 157 #[.pointer (some ⟨w.heap.size+1+1,0,none⟩)] W (EndR (fun x=> .string x) (w.heap.size+1+1) W (some (a,r))))
 obtain⟨y',rfl,hy⟩:=numR_inv h2
 obtain⟨_,_,hs2⟩:=hs1.tail
 have hn2:=fun W hE hR=>(h2▸number_a (w.heap.size+1+1) (y'::r2) W hE hR (by omega) hs1:Calls Tryz.prog 158 #[.pointer (some ⟨w.heap.size+1+1,0,none⟩)] W (EndR (fun v=> .int .i64 v) (w.heap.size+1+1) W (some (y,r2))))
 have hn3:=fun W hE hR=>(h3▸number_a (w.heap.size+1+1) r2 W hE hR (by omega) hs2:Calls Tryz.prog 158 #[.pointer (some ⟨w.heap.size+1+1,0,none⟩)] W (EndR (fun v=> .int .i64 v) (w.heap.size+1+1) W (some (z,[]))))
 clear h1 h2 hy h3 ha
 go_enter_defers Tryz.func88,Tryz.ntmps88
 go_wp2_with fail
 ·obtain⟨hR0,s0⟩:=hR (some ⟨b,off+1,none⟩) (c-1) (hr2 ‹_›).1 (hr2 ‹_›).2
  have hwz:w.heap.size+1+1<(((w.alloc (.cells (fq A1 A2 A3 A4 c1 c2 c3 c4 f) 28)).alloc (.cells #[.int .i64 0] 29)).alloc (.cells #[.slice (some ⟨b,off+1,none⟩) (a::y'::r2).length (c-1)] 188)).heap.size:=by simp
  generalize ((w.alloc (.cells (fq A1 A2 A3 A4 c1 c2 c3 c4 f) 28)).alloc (.cells #[.int .i64 0] 29)).alloc (.cells #[.slice (some ⟨b,off+1,none⟩) (a::y'::r2).length (c-1)] 188)=Wr at*
  clear hR hr1 hr2
  go_wp2_with (first
   |(go_at_call 157;refine(hn _ hR0).mono ?_;rintro e w1 ⟨hg1,rfl,hR1⟩;have s1:=(s0.grown hg1 (by omega)).alloc (.cells #[.string a,.int .i64 0,.int .i64 0,.slice none 0 0] 90);have hsz1:=hg1.size;have kx:=heap_alloc_new w1 (.cells #[.string a,.int .i64 0,.int .i64 0,.slice none 0 0] 90);have hR1:=hR1.below (w':=w1.alloc (.cells #[.string a,.int .i64 0,.int .i64 0,.slice none 0 0] 90)) (by go_grown);clear hn)
   |(go_at_call 158;refine(hn2 _ (hEv.up s1.below) hR1).mono ?_;rintro e w2 ⟨hg2,rfl,hR2⟩;have kx:=(hg2.block w1.heap.size (by simp) (by simp;omega)).trans kx;obtain⟨hcx,hfx⟩:=blk_cells kx;have s2:=(s1.grown hg2 (by omega)).grown (grown_set w2 w1.heap.size 1 (.int .i64 y)) (by omega);have hR3:=hR2.kept (grown_set w2 w1.heap.size 1 (.int .i64 y)) (by omega);have kx2:=heap_setCell_same w2 w1.heap.size 1 _ _ (.int .i64 y) kx;clear hn2)
   |(go_at_call 158;refine(hn3 _ (hEv.up s2.below) hR3).mono ?_;rintro e w3 ⟨hg3,rfl,hR4⟩;have hsz2:=hg2.size;have kx3:=(hg3.block w1.heap.size (by simp at hsz2 ⊢;omega) (by simp;omega)).trans kx2;obtain⟨hcx3,hfx3⟩:=blk_cells kx3;have s3:=(s2.grown hg3 (by omega)).grown (grown_set w3 w1.heap.size 2 (.int .i64 z)) (by omega);have hR5:=hR4.kept (grown_set w3 w1.heap.size 2 (.int .i64 z)) (by omega);have kx4:=heap_setCell_same w3 w1.heap.size 2 _ _ (.int .i64 z) kx3;clear hn3)
   |(go_at_call 159;refine(end_yes (w.heap.size+1+1) _ hR5).mono ?_;rintro e w4 ⟨rfl,rfl⟩;have hD3:=hD.below s3.below;obtain⟨hcb,hfb⟩:=blk_cells hD3.box;obtain⟨hcx4,hfx4⟩:=blk_cells kx4;clear hcx hfx hcx3 hfx3)
   |(go_at_call 97;refine(unless_no _ _).mono ?_;rintro e w9 ⟨rfl,hx9⟩))
  have s9:=s3.up hx9
  refine leaves_cons (f:=96) (args:= #[.pointer (some ⟨w.heap.size+1,0,none⟩)]) (by simp) (by simp[go_sem]) ?_
  refine(caught_up _ _ _ _ s9.ke).mono ?_
  rintro e u' w'' ⟨rfl,rfl,rfl⟩
  have ke4:=heap_setCell_same _ (w.heap.size+1) 0 _ _ (.int .i64 2) s9.ke
  obtain⟨hce,hfe⟩:=blk_cells ke4
  exact⟨.int .i64 2,by simp[results,Tryz.results88,go_sem,hce],s9.endE (Nat.le_of_lt hbd) _,rfl⟩
set_option maxHeartbeats 4000000 in
theorem dedL_dat (bd:Nat)(l:List (Pl.Ded×Option Addr×Nat))(v:Value)(A:Option Addr)(c:Nat)(ws:List ByteArray)(w:World)(hEv:Env w)(hD:DInv bd l w v)(h8:8<=bd)
  (hw:Nms w w.heap.size A (Pl.wDeed::ws)) (hc:ws.length+1<=c) (hs:Sizes ws) (a:ByteArray) (r r2:List ByteArray) (y z:Int) (h1:nameR ws=some (a,r)) (h2:numR r=some (y,r2)) (h3:numR r2=some (z,[])) (h4:decide ((l.length:Int)<60)=true) (h5:(Pl.inB y 1 3000&&Pl.inB z 0 1000)=false):
  Calls Tryz.prog 88 #[.agg (fq A1 A2 A3 A4 c1 c2 c3 c4 f),.pointer (some ⟨bd,0,none⟩),.slice A (ws.length+1) c] w fun e w'=>BelowE bd (Dx bd v l) w w'∧e=.returned (.int .i64 1):=by
 have hbd:=hD.lt
 obtain⟨b,off,rfl,hb,q0⟩:=Nms.at1 hw (k:=0) (by simp)
 simp only[Nat.add_zero,List.getElem_cons_zero]at q0
 unfold Pl.wDeed at q0
 have e1:(0:Int)<((ws.length:Nat):Int)+1:=by omega
 obtain⟨hr1,hr2⟩:=rest_of hw hc
 have hR:=fun A' c' hn hl=>rd_new (fq A1 A2 A3 A4 c1 c2 c3 c4 f) ws w A' c' hn hl
 obtain⟨Al,cl,hv,hsg,hcl,_⟩:=own_seg lay_dd hD.row
 subst hv
 obtain⟨rfl,ha⟩:=nameR_inv h1
 obtain⟨_,_,hs1⟩:=hs.tail
 have hc1: ¬c=1:=by simp at hc;omega
 have hn:=fun W hR=>(h1▸name_a (w.heap.size+1+1) (a::r) W hR hs:Calls Tryz.prog 157 #[.pointer (some ⟨w.heap.size+1+1,0,none⟩)] W (EndR (fun x=> .string x) (w.heap.size+1+1) W (some (a,r))))
 obtain⟨y',rfl,hy⟩:=numR_inv h2
 obtain⟨_,_,hs2⟩:=hs1.tail
 have hn2:=fun W hE hR=>(h2▸number_a (w.heap.size+1+1) (y'::r2) W hE hR (by omega) hs1:Calls Tryz.prog 158 #[.pointer (some ⟨w.heap.size+1+1,0,none⟩)] W (EndR (fun v=> .int .i64 v) (w.heap.size+1+1) W (some (y,r2))))
 have hn3:=fun W hE hR=>(h3▸number_a (w.heap.size+1+1) r2 W hE hR (by omega) hs2:Calls Tryz.prog 158 #[.pointer (some ⟨w.heap.size+1+1,0,none⟩)] W (EndR (fun v=> .int .i64 v) (w.heap.size+1+1) W (some (z,[]))))
 clear h1 h2 hy h3 ha
 have H5:=Lib.hid h5
 clear h5
 have tk1:True:=trivial
 go_enter_defers Tryz.func88,Tryz.ntmps88
 go_wp2_with fail
 ·obtain⟨hR0,s0⟩:=hR (some ⟨b,off+1,none⟩) (c-1) (hr2 ‹_›).1 (hr2 ‹_›).2
  have hwz:w.heap.size+1+1<(((w.alloc (.cells (fq A1 A2 A3 A4 c1 c2 c3 c4 f) 28)).alloc (.cells #[.int .i64 0] 29)).alloc (.cells #[.slice (some ⟨b,off+1,none⟩) (a::y'::r2).length (c-1)] 188)).heap.size:=by simp
  generalize ((w.alloc (.cells (fq A1 A2 A3 A4 c1 c2 c3 c4 f) 28)).alloc (.cells #[.int .i64 0] 29)).alloc (.cells #[.slice (some ⟨b,off+1,none⟩) (a::y'::r2).length (c-1)] 188)=Wr at*
  clear hR hr1 hr2
  go_wp2_with (first
   |(go_at_call 157;refine(hn _ hR0).mono ?_;rintro e w1 ⟨hg1,rfl,hR1⟩;have s1:=(s0.grown hg1 (by omega)).alloc (.cells #[.string a,.int .i64 0,.int .i64 0,.slice none 0 0] 90);have hsz1:=hg1.size;have kx:=heap_alloc_new w1 (.cells #[.string a,.int .i64 0,.int .i64 0,.slice none 0 0] 90);have hR1:=hR1.below (w':=w1.alloc (.cells #[.string a,.int .i64 0,.int .i64 0,.slice none 0 0] 90)) (by go_grown);clear hn)
   |(go_at_call 158;refine(hn2 _ (hEv.up s1.below) hR1).mono ?_;rintro e w2 ⟨hg2,rfl,hR2⟩;have kx:=(hg2.block w1.heap.size (by simp) (by simp;omega)).trans kx;obtain⟨hcx,hfx⟩:=blk_cells kx;have s2:=(s1.grown hg2 (by omega)).grown (grown_set w2 w1.heap.size 1 (.int .i64 y)) (by omega);have hR3:=hR2.kept (grown_set w2 w1.heap.size 1 (.int .i64 y)) (by omega);have kx2:=heap_setCell_same w2 w1.heap.size 1 _ _ (.int .i64 y) kx;clear hn2)
   |(go_at_call 158;refine(hn3 _ (hEv.up s2.below) hR3).mono ?_;rintro e w3 ⟨hg3,rfl,hR4⟩;have hsz2:=hg2.size;have kx3:=(hg3.block w1.heap.size (by simp at hsz2 ⊢;omega) (by simp;omega)).trans kx2;obtain⟨hcx3,hfx3⟩:=blk_cells kx3;have s3:=(s2.grown hg3 (by omega)).grown (grown_set w3 w1.heap.size 2 (.int .i64 z)) (by omega);have hR5:=hR4.kept (grown_set w3 w1.heap.size 2 (.int .i64 z)) (by omega);have kx4:=heap_setCell_same w3 w1.heap.size 2 _ _ (.int .i64 z) kx3;clear hn3)
   |(go_at_call 159;refine(end_yes (w.heap.size+1+1) _ hR5).mono ?_;rintro e w4 ⟨rfl,rfl⟩;have hD3:=hD.below s3.below;obtain⟨hcb,hfb⟩:=blk_cells hD3.box;obtain⟨hcx4,hfx4⟩:=blk_cells kx4;clear hcx hfx hcx3 hfx3)
   |(go_at_call 160;refine(dated_a _ _ _).mono ?_;rintro e w' ⟨rfl,rfl⟩;rw[H5.out])
   |(go_at_call 97;clear tk1;refine(unless_yes _ _).mono ?_;rintro e w' ⟨rfl,rfl⟩)
   |(go_at_call 97;refine(unless_no _ _).mono ?_;rintro e w9 ⟨rfl,hx9⟩))
  have s9:=s3.up hx9
  refine leaves_cons (f:=96) (args:= #[.pointer (some ⟨w.heap.size+1,0,none⟩)]) (by simp) (by simp[go_sem]) ?_
  refine(caught_up _ _ _ _ s9.ke).mono ?_
  rintro e u' w'' ⟨rfl,rfl,rfl⟩
  have ke4:=heap_setCell_same _ (w.heap.size+1) 0 _ _ (.int .i64 1) s9.ke
  obtain⟨hce,hfe⟩:=blk_cells ke4
  exact⟨.int .i64 1,by simp[results,Tryz.results88,go_sem,hce],s9.endE (Nat.le_of_lt hbd) _,rfl⟩
set_option maxHeartbeats 4000000 in
theorem dedL_twice (bd:Nat)(l:List (Pl.Ded×Option Addr×Nat))(v:Value)(A:Option Addr)(c:Nat)(ws:List ByteArray)(w:World)(hEv:Env w)(hD:DInv bd l w v)(h8:8<=bd)
  (hw:Nms w w.heap.size A (Pl.wDeed::ws)) (hc:ws.length+1<=c) (hs:Sizes ws) (a:ByteArray) (r r2:List ByteArray) (y z:Int) (h1:nameR ws=some (a,r)) (h2:numR r=some (y,r2)) (h3:numR r2=some (z,[])) (h4:decide ((l.length:Int)<60)=true) (h5:(Pl.inB y 1 3000&&Pl.inB z 0 1000)=true) (h6:(l.any fun x=>decide (x.1.name=a))=true):
  Calls Tryz.prog 88 #[.agg (fq A1 A2 A3 A4 c1 c2 c3 c4 f),.pointer (some ⟨bd,0,none⟩),.slice A (ws.length+1) c] w fun e w'=>BelowE bd (Dx bd v l) w w'∧e=.returned (.int .i64 6):=by
 have hbd:=hD.lt
 obtain⟨b,off,rfl,hb,q0⟩:=Nms.at1 hw (k:=0) (by simp)
 simp only[Nat.add_zero,List.getElem_cons_zero]at q0
 unfold Pl.wDeed at q0
 have e1:(0:Int)<((ws.length:Nat):Int)+1:=by omega
 obtain⟨hr1,hr2⟩:=rest_of hw hc
 have hR:=fun A' c' hn hl=>rd_new (fq A1 A2 A3 A4 c1 c2 c3 c4 f) ws w A' c' hn hl
 obtain⟨Al,cl,hv,hsg,hcl,_⟩:=own_seg lay_dd hD.row
 subst hv
 obtain⟨rfl,ha⟩:=nameR_inv h1
 obtain⟨_,_,hs1⟩:=hs.tail
 have hc1: ¬c=1:=by simp at hc;omega
 have hn:=fun W hR=>(h1▸name_a (w.heap.size+1+1) (a::r) W hR hs:Calls Tryz.prog 157 #[.pointer (some ⟨w.heap.size+1+1,0,none⟩)] W (EndR (fun x=> .string x) (w.heap.size+1+1) W (some (a,r))))
 obtain⟨y',rfl,hy⟩:=numR_inv h2
 obtain⟨_,_,hs2⟩:=hs1.tail
 have hn2:=fun W hE hR=>(h2▸number_a (w.heap.size+1+1) (y'::r2) W hE hR (by omega) hs1:Calls Tryz.prog 158 #[.pointer (some ⟨w.heap.size+1+1,0,none⟩)] W (EndR (fun v=> .int .i64 v) (w.heap.size+1+1) W (some (y,r2))))
 have hn3:=fun W hE hR=>(h3▸number_a (w.heap.size+1+1) r2 W hE hR (by omega) hs2:Calls Tryz.prog 158 #[.pointer (some ⟨w.heap.size+1+1,0,none⟩)] W (EndR (fun v=> .int .i64 v) (w.heap.size+1+1) W (some (z,[]))))
 clear h1 h2 hy h3 ha
 have H5:=Lib.hid h5
 clear h5
 have tk1:True:=trivial
 have tk2:True:=trivial
 have H6:=Lib.hid h6
 clear h6
 go_enter_defers Tryz.func88,Tryz.ntmps88
 go_wp2_with fail
 ·obtain⟨hR0,s0⟩:=hR (some ⟨b,off+1,none⟩) (c-1) (hr2 ‹_›).1 (hr2 ‹_›).2
  have hwz:w.heap.size+1+1<(((w.alloc (.cells (fq A1 A2 A3 A4 c1 c2 c3 c4 f) 28)).alloc (.cells #[.int .i64 0] 29)).alloc (.cells #[.slice (some ⟨b,off+1,none⟩) (a::y'::r2).length (c-1)] 188)).heap.size:=by simp
  generalize ((w.alloc (.cells (fq A1 A2 A3 A4 c1 c2 c3 c4 f) 28)).alloc (.cells #[.int .i64 0] 29)).alloc (.cells #[.slice (some ⟨b,off+1,none⟩) (a::y'::r2).length (c-1)] 188)=Wr at*
  clear hR hr1 hr2
  go_wp2_with (first
   |(go_at_call 157;refine(hn _ hR0).mono ?_;rintro e w1 ⟨hg1,rfl,hR1⟩;have s1:=(s0.grown hg1 (by omega)).alloc (.cells #[.string a,.int .i64 0,.int .i64 0,.slice none 0 0] 90);have hsz1:=hg1.size;have kx:=heap_alloc_new w1 (.cells #[.string a,.int .i64 0,.int .i64 0,.slice none 0 0] 90);have hR1:=hR1.below (w':=w1.alloc (.cells #[.string a,.int .i64 0,.int .i64 0,.slice none 0 0] 90)) (by go_grown);clear hn)
   |(go_at_call 158;refine(hn2 _ (hEv.up s1.below) hR1).mono ?_;rintro e w2 ⟨hg2,rfl,hR2⟩;have kx:=(hg2.block w1.heap.size (by simp) (by simp;omega)).trans kx;obtain⟨hcx,hfx⟩:=blk_cells kx;have s2:=(s1.grown hg2 (by omega)).grown (grown_set w2 w1.heap.size 1 (.int .i64 y)) (by omega);have hR3:=hR2.kept (grown_set w2 w1.heap.size 1 (.int .i64 y)) (by omega);have kx2:=heap_setCell_same w2 w1.heap.size 1 _ _ (.int .i64 y) kx;clear hn2)
   |(go_at_call 158;refine(hn3 _ (hEv.up s2.below) hR3).mono ?_;rintro e w3 ⟨hg3,rfl,hR4⟩;have hsz2:=hg2.size;have kx3:=(hg3.block w1.heap.size (by simp at hsz2 ⊢;omega) (by simp;omega)).trans kx2;obtain⟨hcx3,hfx3⟩:=blk_cells kx3;have s3:=(s2.grown hg3 (by omega)).grown (grown_set w3 w1.heap.size 2 (.int .i64 z)) (by omega);have hR5:=hR4.kept (grown_set w3 w1.heap.size 2 (.int .i64 z)) (by omega);have kx4:=heap_setCell_same w3 w1.heap.size 2 _ _ (.int .i64 z) kx3;clear hn3)
   |(go_at_call 159;refine(end_yes (w.heap.size+1+1) _ hR5).mono ?_;rintro e w4 ⟨rfl,rfl⟩;have hD3:=hD.below s3.below;obtain⟨hcb,hfb⟩:=blk_cells hD3.box;obtain⟨hcx4,hfx4⟩:=blk_cells kx4;clear hcx hfx hcx3 hfx3)
   |(go_at_call 160;refine(dated_a _ _ _).mono ?_;rintro e w' ⟨rfl,rfl⟩;rw[H5.out])
   |(go_at_call 124;refine(conF_d Al cl l 161 #[.pointer (some ⟨w1.heap.size,0,none⟩)] (fun x=>decide (x.1.name=a)) _ (hsg.up s3.below) (by simp at h4;omega) (enters_of (P:=Tryz.prog) Tryz.func161 (by kernel_rfl) rfl) (fun x _ W hW=>isDed_a w1.heap.size a y z x W (kE hW kx4))).mono ?_;rintro e w5 ⟨rfl,hx5⟩;rw[H6.out];have s5:=s3.up hx5;have hD5:=hD3.below hx5;obtain⟨hcb5,hfb5⟩:=blk_cells hD5.box;have kx5:=kE hx5 kx4;obtain⟨hcx5,hfx5⟩:=blk_cells kx5)
   |(go_at_call 97;(first|clear tk1|clear tk2);refine(unless_yes _ _).mono ?_;rintro e w' ⟨rfl,rfl⟩)
   |(go_at_call 97;refine(unless_no _ _).mono ?_;rintro e w9 ⟨rfl,hx9⟩))
  have s9:=s5.up hx9
  refine leaves_cons (f:=96) (args:= #[.pointer (some ⟨w.heap.size+1,0,none⟩)]) (by simp) (by simp[go_sem]) ?_
  refine(caught_up _ _ _ _ s9.ke).mono ?_
  rintro e u' w'' ⟨rfl,rfl,rfl⟩
  have ke4:=heap_setCell_same _ (w.heap.size+1) 0 _ _ (.int .i64 6) s9.ke
  obtain⟨hce,hfe⟩:=blk_cells ke4
  exact⟨.int .i64 6,by simp[results,Tryz.results88,go_sem,hce],s9.endE (Nat.le_of_lt hbd) _,rfl⟩
set_option maxHeartbeats 4000000 in
theorem dedL_ok (bd:Nat)(l:List (Pl.Ded×Option Addr×Nat))(v:Value)(A:Option Addr)(c:Nat)(ws:List ByteArray)(w:World)(hEv:Env w)(hD:DInv bd l w v)(h8:8<=bd)
  (hw:Nms w w.heap.size A (Pl.wDeed::ws)) (hc:ws.length+1<=c) (hs:Sizes ws) (a:ByteArray) (r r2:List ByteArray) (y z:Int) (h1:nameR ws=some (a,r)) (h2:numR r=some (y,r2)) (h3:numR r2=some (z,[])) (h4:decide ((l.length:Int)<60)=true) (h5:(Pl.inB y 1 3000&&Pl.inB z 0 1000)=true) (h6:(l.any fun x=>decide (x.1.name=a))=false):
  Calls Tryz.prog 88 #[.agg (fq A1 A2 A3 A4 c1 c2 c3 c4 f),.pointer (some ⟨bd,0,none⟩),.slice A (ws.length+1) c] w fun e w'=>EndD bd l v w (.ok (l.map (·.1)++[⟨a,y,z,[]⟩])) e w':=by
 have hbd:=hD.lt
 obtain⟨b,off,rfl,hb,q0⟩:=Nms.at1 hw (k:=0) (by simp)
 simp only[Nat.add_zero,List.getElem_cons_zero]at q0
 unfold Pl.wDeed at q0
 have e1:(0:Int)<((ws.length:Nat):Int)+1:=by omega
 obtain⟨hr1,hr2⟩:=rest_of hw hc
 have hR:=fun A' c' hn hl=>rd_new (fq A1 A2 A3 A4 c1 c2 c3 c4 f) ws w A' c' hn hl
 obtain⟨Al,cl,hv,hsg,hcl,_⟩:=own_seg lay_dd hD.row
 subst hv
 obtain⟨rfl,ha⟩:=nameR_inv h1
 obtain⟨_,_,hs1⟩:=hs.tail
 have hc1: ¬c=1:=by simp at hc;omega
 have hn:=fun W hR=>(h1▸name_a (w.heap.size+1+1) (a::r) W hR hs:Calls Tryz.prog 157 #[.pointer (some ⟨w.heap.size+1+1,0,none⟩)] W (EndR (fun x=> .string x) (w.heap.size+1+1) W (some (a,r))))
 obtain⟨y',rfl,hy⟩:=numR_inv h2
 obtain⟨_,_,hs2⟩:=hs1.tail
 have hn2:=fun W hE hR=>(h2▸number_a (w.heap.size+1+1) (y'::r2) W hE hR (by omega) hs1:Calls Tryz.prog 158 #[.pointer (some ⟨w.heap.size+1+1,0,none⟩)] W (EndR (fun v=> .int .i64 v) (w.heap.size+1+1) W (some (y,r2))))
 have hn3:=fun W hE hR=>(h3▸number_a (w.heap.size+1+1) r2 W hE hR (by omega) hs2:Calls Tryz.prog 158 #[.pointer (some ⟨w.heap.size+1+1,0,none⟩)] W (EndR (fun v=> .int .i64 v) (w.heap.size+1+1) W (some (z,[]))))
 clear h1 h2 hy h3 ha
 have H5:=Lib.hid h5
 clear h5
 have H6:=Lib.hid h6
 clear h6
 go_enter_defers Tryz.func88,Tryz.ntmps88
 go_wp2_with fail
 ·obtain⟨hR0,s0⟩:=hR (some ⟨b,off+1,none⟩) (c-1) (hr2 ‹_›).1 (hr2 ‹_›).2
  have hwz:w.heap.size+1+1<(((w.alloc (.cells (fq A1 A2 A3 A4 c1 c2 c3 c4 f) 28)).alloc (.cells #[.int .i64 0] 29)).alloc (.cells #[.slice (some ⟨b,off+1,none⟩) (a::y'::r2).length (c-1)] 188)).heap.size:=by simp
  generalize ((w.alloc (.cells (fq A1 A2 A3 A4 c1 c2 c3 c4 f) 28)).alloc (.cells #[.int .i64 0] 29)).alloc (.cells #[.slice (some ⟨b,off+1,none⟩) (a::y'::r2).length (c-1)] 188)=Wr at*
  clear hR hr1 hr2
  go_wp2_with (first
   |(go_at_call 157;refine(hn _ hR0).mono ?_;rintro e w1 ⟨hg1,rfl,hR1⟩;have s1:=(s0.grown hg1 (by omega)).alloc (.cells #[.string a,.int .i64 0,.int .i64 0,.slice none 0 0] 90);have hsz1:=hg1.size;have kx:=heap_alloc_new w1 (.cells #[.string a,.int .i64 0,.int .i64 0,.slice none 0 0] 90);have hR1:=hR1.below (w':=w1.alloc (.cells #[.string a,.int .i64 0,.int .i64 0,.slice none 0 0] 90)) (by go_grown);clear hn)
   |(go_at_call 158;refine(hn2 _ (hEv.up s1.below) hR1).mono ?_;rintro e w2 ⟨hg2,rfl,hR2⟩;have kx:=(hg2.block w1.heap.size (by simp) (by simp;omega)).trans kx;obtain⟨hcx,hfx⟩:=blk_cells kx;have s2:=(s1.grown hg2 (by omega)).grown (grown_set w2 w1.heap.size 1 (.int .i64 y)) (by omega);have hR3:=hR2.kept (grown_set w2 w1.heap.size 1 (.int .i64 y)) (by omega);have kx2:=heap_setCell_same w2 w1.heap.size 1 _ _ (.int .i64 y) kx;clear hn2)
   |(go_at_call 158;refine(hn3 _ (hEv.up s2.below) hR3).mono ?_;rintro e w3 ⟨hg3,rfl,hR4⟩;have hsz2:=hg2.size;have kx3:=(hg3.block w1.heap.size (by simp at hsz2 ⊢;omega) (by simp;omega)).trans kx2;obtain⟨hcx3,hfx3⟩:=blk_cells kx3;have s3:=(s2.grown hg3 (by omega)).grown (grown_set w3 w1.heap.size 2 (.int .i64 z)) (by omega);have hR5:=hR4.kept (grown_set w3 w1.heap.size 2 (.int .i64 z)) (by omega);have kx4:=heap_setCell_same w3 w1.heap.size 2 _ _ (.int .i64 z) kx3;clear hn3)
   |(go_at_call 159;refine(end_yes (w.heap.size+1+1) _ hR5).mono ?_;rintro e w4 ⟨rfl,rfl⟩;have hD3:=hD.below s3.below;obtain⟨hcb,hfb⟩:=blk_cells hD3.box;obtain⟨hcx4,hfx4⟩:=blk_cells kx4;clear hcx hfx hcx3 hfx3)
   |(go_at_call 160;refine(dated_a _ _ _).mono ?_;rintro e w' ⟨rfl,rfl⟩;rw[H5.out])
   |(go_at_call 124;refine(conF_d Al cl l 161 #[.pointer (some ⟨w1.heap.size,0,none⟩)] (fun x=>decide (x.1.name=a)) _ (hsg.up s3.below) (by simp at h4;omega) (enters_of (P:=Tryz.prog) Tryz.func161 (by kernel_rfl) rfl) (fun x _ W hW=>isDed_a w1.heap.size a y z x W (kE hW kx4))).mono ?_;rintro e w5 ⟨rfl,hx5⟩;rw[H6.out];have s5:=s3.up hx5;have hD5:=hD3.below hx5;obtain⟨hcb5,hfb5⟩:=blk_cells hD5.box;have kx5:=kE hx5 kx4;obtain⟨hcx5,hfx5⟩:=blk_cells kx5)
   |(go_at_call 97;refine(unless_yes _ _).mono ?_;rintro e w' ⟨rfl,rfl⟩))
  have kx5:w5.heap[w1.heap.size]?=some (.cells #[.string a,.int .i64 y,.int .i64 z,.slice none 0 0] 90 (0,0)):=kx5
  have hnx: ∀i,Dx bd (.slice Al l.length cl) l i->i<w.heap.size:=fun i hi=>(hD.dx hi).2
  have hbE:BelowE bd (Dx bd (.slice Al l.length cl) l) w w5.drew:=(BelowE.of_below s5.below (Nat.le_of_lt hbd)).trans (.of_below ((Below.refl _ _).drew) (by have:=s5.below.size;omega))
  have hs5:=s5.below.size
  have hs5':=s5.sz
  have ke5:=s5.ke
  clear hcb hfb hcx4 hfx4 hcb5 hfb5 hcx5 hfx5 hD3 s3 s2 s1 s0 kx kx2 kx3 kx4 hR1 hR2 hR3 hR4 hR5 hg1 hg2 hg3 hR0 hx5
  obtain⟨g',cap',w6,hrun,hbx,hD6,hb6,hsz6,hnw6⟩:=push_ded (hD5.below ((Below.refl _ w5).drew)) a y z (by simp at h4;omega)
  obtain⟨hcb,hfb⟩:=blk_cells hD5.box
  obtain⟨hcx,hfx⟩:=blk_cells kx5
  obtain⟨hcz,hfz⟩:=blk_cells hbx
  have hltW:=hD5.lt
  have D6:=Lib.hid hD6;have N6:=Lib.hid hnw6
  have ke6:(w6.setCell ⟨bd,0,none⟩ (.slice (some ⟨g',0,none⟩) (l.length+1) cap')).heap[w.heap.size+1]?=some (.cells #[.int .i64 0] 29 (0,0)):=(hb6.k _ (by show w.heap.size+1<w5.heap.size;omega) (fun e=>by have:=hnx _ e;omega)).trans ke5
  obtain⟨hce,hfe⟩:=blk_cells ke6
  have hb7:=hbE.trans hb6
  clear hD6 hD5 hD hnw6 ke5 s5 hbE hb6
  have hrun:(Builtin.append_ #[38,38] 38 #[.slice Al l.length cl,.slice (some ⟨w5.heap.size,0,none⟩) 1 1]).run Tryz.prog (w5.alloc (.cells #[.string a,.int .i64 y,.int .i64 z,.slice none 0 0] 90)).drew=.ok (.slice (some ⟨g',0,none⟩) (l.length+1) cap') w6:=hrun
  have q0:=hcb 0
  have q1:=hcx 0
  have q2:=hcx 1
  have q3:=hcx 2
  have q4:=hcx 3
  have q5:(w5.alloc (.cells #[.string a,.int .i64 y,.int .i64 z,.slice none 0 0] 90)).cell? ⟨bd,0,none⟩=some (.slice Al l.length cl):=(World.cell?_of_block (Below.heap_alloc _ _ _ hltW)).trans q0
  refine wp_region_noPanic ?_
  go_region_with (fail)
  all_goals refine NoPanic.normal ?_
  all_goals go_wp2_with fail
  all_goals (
   refine leaves_cons (f:=96) (args:= #[.pointer (some ⟨w.heap.size+1,0,none⟩)]) (by simp) (by simp[go_sem]) ?_
   refine(caught_idle _ _).mono ?_
   rintro e u' w'' ⟨rfl,rfl,rfl⟩
   have ke7:=heap_setCell_same _ (w.heap.size+1) 0 _ _ (.int .i64 0) ke6
   obtain⟨hce7,hfe7⟩:=blk_cells ke7
   simp[Leaves,settle,results,Tryz.results88,go_sem,hce7]
   have hs5w:w.heap.size<=w5.drew.heap.size:=hs5
   refine⟨⟨hb7.b.setCell (p:=⟨w.heap.size+1,0,none⟩) (by simp;omega) _,fun i hi hx=>(Below.heap_setCell _ _ _ _ (by simp;omega)).trans (hb7.k i hi hx)⟩,rfl,_,_,?_,D6.out.kept (grown_set _ _ _ _) (fun e=> ?_),fun i hi=> ?_⟩
   ·simp
   ·rcases N6.out _ e with h|h
    ·have:=hnx _ h;omega
    ·have:w5.heap.size<=w.heap.size+1:=h
     omega
   ·rcases N6.out i hi with h|h
    ·exact .inl h
    ·exact .inr (Nat.le_trans hs5w h))
end Go.Proofs.YtgbpekeoegfjpaaGreatDoor
set_option maxRecDepth 100000
namespace Go.Proofs.YtgbpekeoegfjpaaGreatDoor
open Go.RowKit Go.Shelf
variable (A1 A2 A3 A4 : Option Addr) (c1 c2 c3 c4 : Nat) (f : Pl.Fld)
attribute [-go_sem] Builtin.append_ run_equalIn_agg
attribute [-go_sem] loadVar
attribute [local go_sem] lv_int lv_bool lv_u8 lv_string lv_vars lv_errno lv_deds
theorem lv_calls (a:Addr)(w:World):(loadVar 88 a).run Tryz.prog w=(load a).run Tryz.prog w:=lv_scalar Tryz.underlying88 rfl a w
attribute [local go_sem] lv_calls
theorem dl_put (d:Nat)(v:Value)(R:Ending->World->Prop)(h6:d≠6)(c:List PanicEntry)(a:Act)(w:World)(h:bodyPostD Tryz.prog Tryz.f88 R (.panic c) (a.put (some d) v) w):bodyPostD Tryz.prog Tryz.f88 R (.panic c) a w:=by
 have e:results Tryz.f88 (a.put (some d) v).tmps=results Tryz.f88 a.tmps:=by
  simp only[results,Tryz.results88,Act.put,List.mapM_toArray,List.mapM_cons,List.mapM_nil,put_get h6]
 exact leaves_congr (T:=(a.put (some d) v).tmps) (fun w=>by rw[e]) _ _ _ h
theorem DInv.few {bd:Nat}{l:List (Pl.Ded×Option Addr×Nat)}{W:World}{v:Value}(h:DInv bd l W v):l.length<=maxLen:=by
 rcases h.row.2 with ⟨_,h2⟩|⟨g,cap,cur,_,_,_,h3,h4,_⟩
 ·omega
 ·omega
theorem last_at {bd:Nat}{l0:List (Pl.Ded×Option Addr×Nat)}{d:Pl.Ded}{p:Option Addr×Nat}{W:World}{v:Value}(h:DInv bd (l0++[(d,p)]) W v):
  ∃ba cp,v=.slice (some ⟨ba,0,none⟩) (l0.length+1) cp∧ ∀W1,Below W.heap.size W W1->W1.cell? ⟨ba,l0.length*4+1,none⟩=some (.int .i64 d.year)∧W1.cell? ⟨ba,l0.length*4+3,none⟩=some (slv p d.calls.length)∧True:=by
 have hlen:(l0++[(d,p)]).length=l0.length+1:=by simp
 have hrow:=h.row
 rw[hlen]at hrow
 obtain⟨ba,cp,rfl⟩:=ownsRow_succ hrow
 refine⟨ba,cp,rfl,fun W1 hb=> ?_⟩
 have hcell: ∀j u,(encDd (d,p))[j]?=some u->W1.cell? ⟨ba,l0.length*4+j,none⟩=some u:=by
  intro j u hu
  have hf:=flat_at encDd 4 (fun _=>rfl) (l:=l0++[(d,p)]) (k:=l0.length) (x:=(d,p)) (by simp) hu
  have:=(own_below hrow hb).cells rfl _ u hf
  rwa[Go.WideShapes.add_plain,Nat.zero_add]at this
 exact⟨hcell 1 _ rfl,hcell 3 _ rfl,trivial⟩
set_option maxHeartbeats 4000000 in
theorem frmL_none (bd:Nat)(l:List (Pl.Ded×Option Addr×Nat))(v:Value)(A:Option Addr)(c:Nat)(k:ByteArray)(ws:List ByteArray)(w:World)(hEv:Env w)(hD:DInv bd l w v)(_h8:8<=bd)
  (hw:Nms w w.heap.size A (k::ws)) (hc:(k::ws).length<=c) (hs:Sizes (k::ws)) (hk:k≠Pl.wDeed) (hform:Pl.form (k::ws)=none):
  Calls Tryz.prog 88 #[.agg (fq A1 A2 A3 A4 c1 c2 c3 c4 f),.pointer (some ⟨bd,0,none⟩),.slice A (ws.length+1) c] w fun e w'=>BelowE bd (Dx bd v l) w w'∧e=.returned (.int .i64 4):=by
 have hbd:=hD.lt
 obtain⟨b,off,rfl,hb,q0⟩:=Nms.at1 hw (k:=0) (by simp)
 simp only[Nat.add_zero,List.getElem_cons_zero]at q0
 have e1:(0:Int)<((ws.length:Nat):Int)+1:=by omega
 have hkd:((k.toList==Pl.wDeed.toList))=false:=by rw[str_same];exact decide_eq_false hk
 have kf0:=heap_alloc2_old w (.cells (fq A1 A2 A3 A4 c1 c2 c3 c4 f) 28) (.cells #[.int .i64 0] 29)
 have ke:=heap_alloc2_new w (.cells (fq A1 A2 A3 A4 c1 c2 c3 c4 f) 28) (.cells #[.int .i64 0] 29)
 have hb0:Below w.heap.size w ((w.alloc (.cells (fq A1 A2 A3 A4 c1 c2 c3 c4 f) 28)).alloc (.cells #[.int .i64 0] 29)):=((Below.refl _ w).alloc (Nat.le_refl _) _).alloc (by simp) _
 have s0:DSt w ((w.alloc (.cells (fq A1 A2 A3 A4 c1 c2 c3 c4 f) 28)).alloc (.cells #[.int .i64 0] 29)):=⟨hb0,by simp,ke⟩
 have hz0:((w.alloc (.cells (fq A1 A2 A3 A4 c1 c2 c3 c4 f) 28)).alloc (.cells #[.int .i64 0] 29)).heap.size=w.heap.size+2:=by simp
 have hfm:=formed_a (some ⟨b,off,none⟩) c (k::ws) ((w.alloc (.cells (fq A1 A2 A3 A4 c1 c2 c3 c4 f) 28)).alloc (.cells #[.int .i64 0] 29)) (hEv.up s0.below) (hw.up s0.below) hc hs
 rw[hform]at hfm
 unfold Pl.wDeed at hkd
 rw[show(⟨#[100,101,101,100]⟩:ByteArray).toList=[100,101,101,100] from by rw[ByteArray.toList_eq]]at hkd
 clear kf0 ke hb0
 go_enter_defers Tryz.func88,Tryz.ntmps88
 go_wp2_with (go_at_call 100;refine hfm.mono ?_;rintro e w1 ⟨hx,rfl⟩)
 have s9:=s0.up hx
 refine leaves_cons (f:=96) (args:= #[.pointer (some ⟨w.heap.size+1,0,none⟩)]) (by simp) (by simp[go_sem]) ?_
 refine(caught_up _ _ _ _ s9.ke).mono ?_
 rintro e u' w'' ⟨rfl,rfl,rfl⟩
 have ke4:=heap_setCell_same _ (w.heap.size+1) 0 _ _ (.int .i64 4) s9.ke
 obtain⟨hce,hfe⟩:=blk_cells ke4
 exact⟨.int .i64 4,by simp[results,Tryz.results88,go_sem,hce],s9.endE (Nat.le_of_lt hbd) _,rfl⟩
set_option maxHeartbeats 4000000 in
theorem frmL_empty (bd:Nat)(l:List (Pl.Ded×Option Addr×Nat))(v:Value)(A:Option Addr)(c:Nat)(k:ByteArray)(ws:List ByteArray)(w:World)(hEv:Env w)(hD:DInv bd l w v)(_h8:8<=bd)
  (hw:Nms w w.heap.size A (k::ws)) (hc:(k::ws).length<=c) (hs:Sizes (k::ws)) (hk:k≠Pl.wDeed) (x:Pl.Frm) (hform:Pl.form (k::ws)=some x) (hl:l.length=0):
  Calls Tryz.prog 88 #[.agg (fq A1 A2 A3 A4 c1 c2 c3 c4 f),.pointer (some ⟨bd,0,none⟩),.slice A (ws.length+1) c] w fun e w'=>BelowE bd (Dx bd v l) w w'∧e=.returned (.int .i64 4):=by
 have hbd:=hD.lt
 obtain⟨b,off,rfl,hb,q0⟩:=Nms.at1 hw (k:=0) (by simp)
 simp only[Nat.add_zero,List.getElem_cons_zero]at q0
 have e1:(0:Int)<((ws.length:Nat):Int)+1:=by omega
 have hkd:((k.toList==Pl.wDeed.toList))=false:=by rw[str_same];exact decide_eq_false hk
 have kf0:=heap_alloc2_old w (.cells (fq A1 A2 A3 A4 c1 c2 c3 c4 f) 28) (.cells #[.int .i64 0] 29)
 have ke:=heap_alloc2_new w (.cells (fq A1 A2 A3 A4 c1 c2 c3 c4 f) 28) (.cells #[.int .i64 0] 29)
 have hb0:Below w.heap.size w ((w.alloc (.cells (fq A1 A2 A3 A4 c1 c2 c3 c4 f) 28)).alloc (.cells #[.int .i64 0] 29)):=((Below.refl _ w).alloc (Nat.le_refl _) _).alloc (by simp) _
 have s0:DSt w ((w.alloc (.cells (fq A1 A2 A3 A4 c1 c2 c3 c4 f) 28)).alloc (.cells #[.int .i64 0] 29)):=⟨hb0,by simp,ke⟩
 have hz0:((w.alloc (.cells (fq A1 A2 A3 A4 c1 c2 c3 c4 f) 28)).alloc (.cells #[.int .i64 0] 29)).heap.size=w.heap.size+2:=by simp
 have hfm:=formed_a (some ⟨b,off,none⟩) c (k::ws) ((w.alloc (.cells (fq A1 A2 A3 A4 c1 c2 c3 c4 f) 28)).alloc (.cells #[.int .i64 0] 29)) (hEv.up s0.below) (hw.up s0.below) hc hs
 rw[hform]at hfm
 unfold Pl.wDeed at hkd
 rw[show(⟨#[100,101,101,100]⟩:ByteArray).toList=[100,101,101,100] from by rw[ByteArray.toList_eq]]at hkd
 obtain⟨Al,cl,hv,_,_,_⟩:=own_seg lay_dd hD.row
 subst hv
 rw[hl]at*
 clear kf0 ke hb0
 go_enter_defers Tryz.func88,Tryz.ntmps88
 go_wp2_with (first|(go_at_call 100;refine hfm.mono ?_;rintro e w1 ⟨hx,u,rfl,hF⟩;have s1:=s0.up hx;have hD1:=hD.below s1.below;obtain⟨hcb,hfb⟩:=blk_cells hD1.box)|(go_at_call 97;refine(unless_no _ _).mono ?_;rintro e w9 ⟨rfl,hx9⟩))
 have s9:=s1.up hx9
 refine leaves_cons (f:=96) (args:= #[.pointer (some ⟨w.heap.size+1,0,none⟩)]) (by simp) (by simp[go_sem]) ?_
 refine(caught_up _ _ _ _ s9.ke).mono ?_
 rintro e u' w'' ⟨rfl,rfl,rfl⟩
 have ke4:=heap_setCell_same _ (w.heap.size+1) 0 _ _ (.int .i64 4) s9.ke
 obtain⟨hce,hfe⟩:=blk_cells ke4
 exact⟨.int .i64 4,by simp[results,Tryz.results88,go_sem,hce],s9.endE (Nat.le_of_lt hbd) _,rfl⟩
set_option maxHeartbeats 4000000 in
theorem frmL_full (bd:Nat)(l:List (Pl.Ded×Option Addr×Nat))(v:Value)(A:Option Addr)(c:Nat)(k:ByteArray)(ws:List ByteArray)(w:World)(hEv:Env w)(hD:DInv bd l w v)(_h8:8<=bd)
  (hw:Nms w w.heap.size A (k::ws)) (hc:(k::ws).length<=c) (hs:Sizes (k::ws)) (hk:k≠Pl.wDeed) (x:Pl.Frm) (hform:Pl.form (k::ws)=some x) (l0:List (Pl.Ded×Option Addr×Nat)) (d:Pl.Ded) (p:Option Addr×Nat) (hl:l=l0++[(d,p)]) (h20:decide ((d.calls.length:Int)<20)=false):
  Calls Tryz.prog 88 #[.agg (fq A1 A2 A3 A4 c1 c2 c3 c4 f),.pointer (some ⟨bd,0,none⟩),.slice A (ws.length+1) c] w fun e w'=>BelowE bd (Dx bd v l) w w'∧e=.returned (.int .i64 2):=by
 have hbd:=hD.lt
 obtain⟨b,off,rfl,hb,q0⟩:=Nms.at1 hw (k:=0) (by simp)
 simp only[Nat.add_zero,List.getElem_cons_zero]at q0
 have e1:(0:Int)<((ws.length:Nat):Int)+1:=by omega
 have hkd:((k.toList==Pl.wDeed.toList))=false:=by rw[str_same];exact decide_eq_false hk
 have kf0:=heap_alloc2_old w (.cells (fq A1 A2 A3 A4 c1 c2 c3 c4 f) 28) (.cells #[.int .i64 0] 29)
 have ke:=heap_alloc2_new w (.cells (fq A1 A2 A3 A4 c1 c2 c3 c4 f) 28) (.cells #[.int .i64 0] 29)
 have hb0:Below w.heap.size w ((w.alloc (.cells (fq A1 A2 A3 A4 c1 c2 c3 c4 f) 28)).alloc (.cells #[.int .i64 0] 29)):=((Below.refl _ w).alloc (Nat.le_refl _) _).alloc (by simp) _
 have s0:DSt w ((w.alloc (.cells (fq A1 A2 A3 A4 c1 c2 c3 c4 f) 28)).alloc (.cells #[.int .i64 0] 29)):=⟨hb0,by simp,ke⟩
 have hz0:((w.alloc (.cells (fq A1 A2 A3 A4 c1 c2 c3 c4 f) 28)).alloc (.cells #[.int .i64 0] 29)).heap.size=w.heap.size+2:=by simp
 have hfm:=formed_a (some ⟨b,off,none⟩) c (k::ws) ((w.alloc (.cells (fq A1 A2 A3 A4 c1 c2 c3 c4 f) 28)).alloc (.cells #[.int .i64 0] 29)) (hEv.up s0.below) (hw.up s0.below) hc hs
 rw[hform]at hfm
 unfold Pl.wDeed at hkd
 rw[show(⟨#[100,101,101,100]⟩:ByteArray).toList=[100,101,101,100] from by rw[ByteArray.toList_eq]]at hkd
 subst hl
 obtain⟨ba,cp,rfl,hcell⟩:=last_at hD
 have hfew:=hD.few
 rw[List.length_append,List.length_singleton]at hfew
 unfold maxLen at hfew
 have e2:(0:Int)<((l0.length+1:Nat):Int):=by omega
 have e3:IntKind.i64.wrap (((l0.length+1:Nat):Int)-1)=(l0.length:Int):=by rw[IntWalk.i64_in _ (by omega)];omega
 have e3':IntKind.i64.wrap ((l0.length:Int)+1-1)=(l0.length:Int):=by rw[IntWalk.i64_in _ (by omega)];omega
 have e3s:IntKind.i64.wrap (l0.length:Int)=(l0.length:Int):=IntWalk.i64_in _ (by omega)
 have e4:(0:Int)<=(l0.length:Int):=by omega
 have e5:(l0.length:Int)<((l0.length+1:Nat):Int):=by omega
 have e6:(l0.length:Int)<(l0.length:Int)+1:=by omega
 have tk1:True:=trivial
 clear kf0 ke hb0
 go_enter_defers Tryz.func88,Tryz.ntmps88
 go_wp2_with (first|(go_at_call 100;refine hfm.mono ?_;rintro e w1 ⟨hx,u,rfl,hF⟩;have s1:=s0.up hx;have hD1:=hD.below s1.below;obtain⟨hcb,hfb⟩:=blk_cells hD1.box)|(go_at_call 97;clear tk1;refine(unless_yes _ _).mono ?_;rintro e w' ⟨rfl,rfl⟩)|(go_at_call 97;refine(unless_no _ _).mono ?_;rintro e w9 ⟨rfl,hx9⟩))
 have s2:DSt w w1.drew:=s1.up ((Below.refl _ w1).drew)
 obtain⟨y1,y2,_⟩:=hcell _ s2.below
 unfold slv at y2
 go_region_held3 (fun W=>W.cell? ⟨bd,0,none⟩=some (.slice (some ⟨ba,0,none⟩) (l0.length+1) cp)) (exact(hcb 0)) (fail)
 go_wp2_with (first|(go_at_call 97;refine(unless_no _ _).mono ?_;rintro e w9 ⟨rfl,hx9⟩))
 have s9:=s2.up hx9
 refine leaves_cons (f:=96) (args:= #[.pointer (some ⟨w.heap.size+1,0,none⟩)]) (by simp) (by simp[go_sem]) ?_
 refine(caught_up _ _ _ _ s9.ke).mono ?_
 rintro e u' w'' ⟨rfl,rfl,rfl⟩
 have ke4:=heap_setCell_same _ (w.heap.size+1) 0 _ _ (.int .i64 2) s9.ke
 obtain⟨hce,hfe⟩:=blk_cells ke4
 exact⟨.int .i64 2,by simp[results,Tryz.results88,go_sem,hce],s9.endE (Nat.le_of_lt hbd) _,rfl⟩
set_option maxHeartbeats 4000000 in
theorem frmL_err (bd:Nat)(l:List (Pl.Ded×Option Addr×Nat))(v:Value)(A:Option Addr)(c:Nat)(k:ByteArray)(ws:List ByteArray)(w:World)(hEv:Env w)(hD:DInv bd l w v)(_h8:8<=bd)
  (hw:Nms w w.heap.size A (k::ws)) (hc:(k::ws).length<=c) (hs:Sizes (k::ws)) (hk:k≠Pl.wDeed) (x:Pl.Frm) (hform:Pl.form (k::ws)=some x) (l0:List (Pl.Ded×Option Addr×Nat)) (d:Pl.Ded) (p:Option Addr×Nat) (hl:l=l0++[(d,p)]) (h20:decide ((d.calls.length:Int)<20)=true) (E:Int) (hmd:Pl.madeC f x d.year=.error E) (hf:FldS w bd A1 A2 A3 A4 f) (hm:Small f) (hcp:Caps c1 c2 c3 c4 f) (hE:Pl.fieldE f=0):
  Calls Tryz.prog 88 #[.agg (fq A1 A2 A3 A4 c1 c2 c3 c4 f),.pointer (some ⟨bd,0,none⟩),.slice A (ws.length+1) c] w fun e w'=>BelowE bd (Dx bd v l) w w'∧e=.returned (.int .i64 E):=by
 have hbd:=hD.lt
 obtain⟨b,off,rfl,hb,q0⟩:=Nms.at1 hw (k:=0) (by simp)
 simp only[Nat.add_zero,List.getElem_cons_zero]at q0
 have e1:(0:Int)<((ws.length:Nat):Int)+1:=by omega
 have hkd:((k.toList==Pl.wDeed.toList))=false:=by rw[str_same];exact decide_eq_false hk
 have kf0:=heap_alloc2_old w (.cells (fq A1 A2 A3 A4 c1 c2 c3 c4 f) 28) (.cells #[.int .i64 0] 29)
 have ke:=heap_alloc2_new w (.cells (fq A1 A2 A3 A4 c1 c2 c3 c4 f) 28) (.cells #[.int .i64 0] 29)
 have hb0:Below w.heap.size w ((w.alloc (.cells (fq A1 A2 A3 A4 c1 c2 c3 c4 f) 28)).alloc (.cells #[.int .i64 0] 29)):=((Below.refl _ w).alloc (Nat.le_refl _) _).alloc (by simp) _
 have s0:DSt w ((w.alloc (.cells (fq A1 A2 A3 A4 c1 c2 c3 c4 f) 28)).alloc (.cells #[.int .i64 0] 29)):=⟨hb0,by simp,ke⟩
 have hz0:((w.alloc (.cells (fq A1 A2 A3 A4 c1 c2 c3 c4 f) 28)).alloc (.cells #[.int .i64 0] 29)).heap.size=w.heap.size+2:=by simp
 have hfm:=formed_a (some ⟨b,off,none⟩) c (k::ws) ((w.alloc (.cells (fq A1 A2 A3 A4 c1 c2 c3 c4 f) 28)).alloc (.cells #[.int .i64 0] 29)) (hEv.up s0.below) (hw.up s0.below) hc hs
 rw[hform]at hfm
 unfold Pl.wDeed at hkd
 rw[show(⟨#[100,101,101,100]⟩:ByteArray).toList=[100,101,101,100] from by rw[ByteArray.toList_eq]]at hkd
 have h20':d.calls.length<=100000:=by simp at h20;omega
 subst hl
 obtain⟨ba,cp,rfl,_,_,hcell,happ⟩:=push_call hD ⟨0,0,0,0,0,0,0,Pl.Crs.zero⟩ (by omega)
 have hfew:=hD.few
 rw[List.length_append,List.length_singleton]at hfew
 unfold maxLen at hfew
 have e2:(0:Int)<((l0.length+1:Nat):Int):=by omega
 have e3:IntKind.i64.wrap (((l0.length+1:Nat):Int)-1)=(l0.length:Int):=by rw[IntWalk.i64_in _ (by omega)];omega
 have e3':IntKind.i64.wrap ((l0.length:Int)+1-1)=(l0.length:Int):=by rw[IntWalk.i64_in _ (by omega)];omega
 have e3s:IntKind.i64.wrap (l0.length:Int)=(l0.length:Int):=IntWalk.i64_in _ (by omega)
 have e4:(0:Int)<=(l0.length:Int):=by omega
 have e5:(l0.length:Int)<((l0.length+1:Nat):Int):=by omega
 have e6:(l0.length:Int)<(l0.length:Int)+1:=by omega
 have HM:=Lib.hid hmd
 clear hmd happ
 clear ke hb0
 have hx5:=form_kind hform
 have HE:=Lib.hid hE
 clear hE hform
 go_enter_defers Tryz.func88,Tryz.ntmps88
 go_wp2_with (first|(go_at_call 100;refine hfm.mono ?_;rintro e w1 ⟨hx,u,rfl,hF⟩;have s1:=s0.up hx;have kf1:=(hx.block _ (by omega)).trans kf0;have hD1:=hD.below s1.below;obtain⟨hcb,hfb⟩:=blk_cells hD1.box)|(go_at_call 97;refine(unless_yes _ _).mono ?_;rintro e w' ⟨rfl,rfl⟩))
 have s2:DSt w w1.drew:=s1.up ((Below.refl _ w1).drew)
 have kf2:w1.drew.heap[w.heap.size]?=_:=kf1
 obtain⟨y1,y2,_⟩:=hcell _ s2.below
 unfold slv at y2
 go_region_held3 (fun W=>W.cell? ⟨bd,0,none⟩=some (.slice (some ⟨ba,0,none⟩) (l0.length+1) cp)) (exact(hcb 0)) (fail)
 go_wp2_with (go_at_call 97;refine(unless_yes _ _).mono ?_;rintro e w' ⟨rfl,rfl⟩)
 have hszw:=s1.sz
 clear hcb hfb hD1 s1 kf1
 refine wp_region_held_drew (S:=fun W=>(loadVar 28 ⟨w.heap.size,0,none⟩).run Tryz.prog W=.ok (.agg (fq A1 A2 A3 A4 c1 c2 c3 c4 f)) W∧W.cell? ⟨ba,l0.length*4+1,none⟩=some (.int .i64 d.year)∧W.cell? ⟨ba,l0.length*4+3,none⟩=some (.slice p.1 d.calls.length p.2)) (by kernel_rfl) ⟨ld_row kf2 Tryz.underlying28 rfl info_fld,y1,y2⟩ (fun hHeld=> ?_)
 have s3:DSt w w1.drew.drew:=s2.up ((Below.refl _ _).drew)
 have hb3:Below w1.heap.size w1 w1.drew.drew:=((Below.refl _ w1).drew).drew
 have hz3:w1.drew.drew.heap.size=w1.heap.size:=rfl
 clear s2 kf2 y1 y2
 generalize w1.drew.drew=W3 at*
 refine takeH 0 (some 81) (v:= ?v1) rfl rfl (by kernel_rfl) (by kernel_rfl) (by kernel_rfl) (fun c a w h=>dl_put 81 _ _ (by decide) c a w h) (Or.inl ⟨by rfl,fun W hW=> ?hy1⟩) (by assumption) ?hr1
 case hy1=>(try dsimp only at hW);go_simp;try with_reducible rfl
 try simp only[Act.put,List.setIfInBounds_toArray,List.set_cons_zero,List.set_cons_succ]
 refine takeH 1 (some 82) (v:= ?v2) rfl rfl (by kernel_rfl) (by kernel_rfl) (by kernel_rfl) (fun c a w h=>dl_put 82 _ _ (by decide) c a w h) (Or.inl ⟨by rfl,fun W hW=> ?hy2⟩) (by assumption) ?hr2
 case hy2=>(try dsimp only at hW);go_simp;try with_reducible rfl
 try simp only[Act.put,List.setIfInBounds_toArray,List.set_cons_zero,List.set_cons_succ]
 refine takeH 2 (some 83) (v:= ?v3) rfl rfl (by kernel_rfl) (by kernel_rfl) (by kernel_rfl) (fun c a w h=>dl_put 83 _ _ (by decide) c a w h) (Or.inl ⟨by rfl,fun W hW=> ?hy3⟩) (by assumption) ?hr3
 case hy3=>(try dsimp only at hW);go_simp;try with_reducible rfl
 try simp only[Act.put,List.setIfInBounds_toArray,List.set_cons_zero,List.set_cons_succ]
 refine takeH 3 (some 84) (v:= ?v4) rfl rfl (by kernel_rfl) (by kernel_rfl) (by kernel_rfl) (fun c a w h=>dl_put 84 _ _ (by decide) c a w h) (Or.inl ⟨by rfl,fun W hW=> ?hy4⟩) (by assumption) ?hr4
 case hy4=>(try dsimp only at hW);go_simp;try with_reducible rfl
 try simp only[Act.put,List.setIfInBounds_toArray,List.set_cons_zero,List.set_cons_succ]
 refine takeH 4 (some 85) (v:= ?v5) rfl rfl (by kernel_rfl) (by kernel_rfl) (by kernel_rfl) (fun c a w h=>dl_put 85 _ _ (by decide) c a w h) (Or.inl ⟨by rfl,fun W hW=> ?hy5⟩) (by assumption) ?hr5
 case hy5=>(try dsimp only at hW);go_simp;try with_reducible rfl
 try simp only[Act.put,List.setIfInBounds_toArray,List.set_cons_zero,List.set_cons_succ]
 refine takeH 5 (some 86) (v:= ?v6) rfl rfl (by kernel_rfl) (by kernel_rfl) (by kernel_rfl) (fun c a w h=>dl_put 86 _ _ (by decide) c a w h) (Or.inl ⟨by rfl,fun W hW=> ?hy6⟩) (by assumption) ?hr6
 case hy6=>(try dsimp only at hW);go_simp;try with_reducible rfl
 try simp only[Act.put,List.setIfInBounds_toArray,List.set_cons_zero,List.set_cons_succ]
 refine takeH 6 (some 87) (v:= ?v7) rfl rfl (by kernel_rfl) (by kernel_rfl) (by kernel_rfl) (fun c a w h=>dl_put 87 _ _ (by decide) c a w h) (Or.inl ⟨by rfl,fun W hW=> ?hy7⟩) (by assumption) ?hr7
 case hy7=>(try dsimp only at hW);go_simp;try with_reducible rfl
 try simp only[Act.put,List.setIfInBounds_toArray,List.set_cons_zero,List.set_cons_succ]
 refine takeH 7 (some 88) (v:= ?v8) rfl rfl (by kernel_rfl) (by kernel_rfl) (by kernel_rfl) (fun c a w h=>dl_put 88 _ _ (by decide) c a w h) (Or.inl ⟨by rfl,fun W hW=> ?hy8⟩) (by assumption) ?hr8
 case hy8=>(try dsimp only at hW);go_simp;try with_reducible rfl
 try simp only[Act.put,List.setIfInBounds_toArray,List.set_cons_zero,List.set_cons_succ]
 refine takeH 8 (some 89) (v:= ?v9) rfl rfl (by kernel_rfl) (by kernel_rfl) (by kernel_rfl) (fun c a w h=>dl_put 89 _ _ (by decide) c a w h) (Or.inl ⟨by rfl,fun W hW=> ?hy9⟩) (by assumption) ?hr9
 case hy9=>(try dsimp only at hW);go_simp;try with_reducible rfl
 try simp only[Act.put,List.setIfInBounds_toArray,List.set_cons_zero,List.set_cons_succ]
 refine takeH 9 (some 90) (v:= ?v10) rfl rfl (by kernel_rfl) (by kernel_rfl) (by kernel_rfl) (fun c a w h=>dl_put 90 _ _ (by decide) c a w h) (Or.inl ⟨by rfl,fun W hW=> ?hy10⟩) (by assumption) ?hr10
 case hy10=>(try dsimp only at hW);go_simp;try with_reducible rfl
 try simp only[Act.put,List.setIfInBounds_toArray,List.set_cons_zero,List.set_cons_succ]
 refine takeH 10 (some 91) (v:= ?v11) rfl rfl (by kernel_rfl) (by kernel_rfl) (by kernel_rfl) (fun c a w h=>dl_put 91 _ _ (by decide) c a w h) (Or.inl ⟨by rfl,fun W hW=> ?hy11⟩) (by assumption) ?hr11
 case hy11=>(try dsimp only at hW);go_simp;try with_reducible rfl
 try simp only[Act.put,List.setIfInBounds_toArray,List.set_cons_zero,List.set_cons_succ]
 refine wpAnyH_ready (rs:=[11]) (by kernel_rfl) (by simp) ?_
 refine readyH (some 92) rfl rfl (fun K hK=> ?_) AllReadyH.nil
 go_simp
 refine(made_a A1 A2 A3 A4 c1 c2 c3 c4 f (w.heap.size+2) w1.heap.size u x d.year W3 (hz0▸hF.up hb3) (by omega) (by omega) ((hf.below (s3.below.mono (by omega))).more (by omega)) (by omega) hm hcp HE.out).mono ?_
 rintro e w4 ⟨hx4,hm4⟩
 rw[HM.out]at hm4
 subst hm4
 have s9:DSt w w4:=⟨s3.below.trans (hx4.mono (by omega)),Nat.le_trans s3.sz hx4.size,(hx4.block _ (by omega)).trans s3.ke⟩
 refine leaves_cons (f:=96) (args:= #[.pointer (some ⟨w.heap.size+1,0,none⟩)]) (by simp) (by simp[go_sem]) ?_
 refine(caught_up _ _ _ _ s9.ke).mono ?_
 rintro e u' w'' ⟨rfl,rfl,rfl⟩
 have ke4:=heap_setCell_same _ (w.heap.size+1) 0 _ _ (.int .i64 E) s9.ke
 obtain⟨hce,hfe⟩:=blk_cells ke4
 exact⟨.int .i64 E,by simp[results,Tryz.results88,go_sem,hce],s9.endE (Nat.le_of_lt hbd) _,rfl⟩
set_option maxHeartbeats 4000000 in
theorem frmL_ok (bd:Nat)(l:List (Pl.Ded×Option Addr×Nat))(v:Value)(A:Option Addr)(c:Nat)(k:ByteArray)(ws:List ByteArray)(w:World)(hEv:Env w)(hD:DInv bd l w v)(_h8:8<=bd)
  (hw:Nms w w.heap.size A (k::ws)) (hc:(k::ws).length<=c) (hs:Sizes (k::ws)) (hk:k≠Pl.wDeed) (x:Pl.Frm) (hform:Pl.form (k::ws)=some x) (l0:List (Pl.Ded×Option Addr×Nat)) (d:Pl.Ded) (p:Option Addr×Nat) (hl:l=l0++[(d,p)]) (h20:decide ((d.calls.length:Int)<20)=true) (c0:Pl.Cal) (hmd:Pl.madeC f x d.year=.ok c0) (hf:FldS w bd A1 A2 A3 A4 f) (hm:Small f) (hcp:Caps c1 c2 c3 c4 f) (hE:Pl.fieldE f=0):
  Calls Tryz.prog 88 #[.agg (fq A1 A2 A3 A4 c1 c2 c3 c4 f),.pointer (some ⟨bd,0,none⟩),.slice A (ws.length+1) c] w fun e w'=>EndD bd l v w (.ok (l0.map (·.1)++[{d with calls:=d.calls++[c0]}])) e w':=by
 have hbd:=hD.lt
 obtain⟨b,off,rfl,hb,q0⟩:=Nms.at1 hw (k:=0) (by simp)
 simp only[Nat.add_zero,List.getElem_cons_zero]at q0
 have e1:(0:Int)<((ws.length:Nat):Int)+1:=by omega
 have hkd:((k.toList==Pl.wDeed.toList))=false:=by rw[str_same];exact decide_eq_false hk
 have kf0:=heap_alloc2_old w (.cells (fq A1 A2 A3 A4 c1 c2 c3 c4 f) 28) (.cells #[.int .i64 0] 29)
 have ke:=heap_alloc2_new w (.cells (fq A1 A2 A3 A4 c1 c2 c3 c4 f) 28) (.cells #[.int .i64 0] 29)
 have hb0:Below w.heap.size w ((w.alloc (.cells (fq A1 A2 A3 A4 c1 c2 c3 c4 f) 28)).alloc (.cells #[.int .i64 0] 29)):=((Below.refl _ w).alloc (Nat.le_refl _) _).alloc (by simp) _
 have s0:DSt w ((w.alloc (.cells (fq A1 A2 A3 A4 c1 c2 c3 c4 f) 28)).alloc (.cells #[.int .i64 0] 29)):=⟨hb0,by simp,ke⟩
 have hz0:((w.alloc (.cells (fq A1 A2 A3 A4 c1 c2 c3 c4 f) 28)).alloc (.cells #[.int .i64 0] 29)).heap.size=w.heap.size+2:=by simp
 have hfm:=formed_a (some ⟨b,off,none⟩) c (k::ws) ((w.alloc (.cells (fq A1 A2 A3 A4 c1 c2 c3 c4 f) 28)).alloc (.cells #[.int .i64 0] 29)) (hEv.up s0.below) (hw.up s0.below) hc hs
 rw[hform]at hfm
 unfold Pl.wDeed at hkd
 rw[show(⟨#[100,101,101,100]⟩:ByteArray).toList=[100,101,101,100] from by rw[ByteArray.toList_eq]]at hkd
 have h20':d.calls.length<=100000:=by simp at h20;omega
 subst hl
 obtain⟨ba,cp,rfl,_,_,hcell,happ⟩:=push_call hD c0 (by omega)
 have hfew:=hD.few
 rw[List.length_append,List.length_singleton]at hfew
 unfold maxLen at hfew
 have e2:(0:Int)<((l0.length+1:Nat):Int):=by omega
 have e3:IntKind.i64.wrap (((l0.length+1:Nat):Int)-1)=(l0.length:Int):=by rw[IntWalk.i64_in _ (by omega)];omega
 have e3':IntKind.i64.wrap ((l0.length:Int)+1-1)=(l0.length:Int):=by rw[IntWalk.i64_in _ (by omega)];omega
 have e3s:IntKind.i64.wrap (l0.length:Int)=(l0.length:Int):=IntWalk.i64_in _ (by omega)
 have e4:(0:Int)<=(l0.length:Int):=by omega
 have e5:(l0.length:Int)<((l0.length+1:Nat):Int):=by omega
 have e6:(l0.length:Int)<(l0.length:Int)+1:=by omega
 have HM:=Lib.hid hmd
 clear hmd
 clear ke hb0
 have hx5:=form_kind hform
 have HE:=Lib.hid hE
 clear hE hform
 go_enter_defers Tryz.func88,Tryz.ntmps88
 go_wp2_with (first|(go_at_call 100;refine hfm.mono ?_;rintro e w1 ⟨hx,u,rfl,hF⟩;have s1:=s0.up hx;have kf1:=(hx.block _ (by omega)).trans kf0;have hD1:=hD.below s1.below;obtain⟨hcb,hfb⟩:=blk_cells hD1.box)|(go_at_call 97;refine(unless_yes _ _).mono ?_;rintro e w' ⟨rfl,rfl⟩))
 have s2:DSt w w1.drew:=s1.up ((Below.refl _ w1).drew)
 have kf2:w1.drew.heap[w.heap.size]?=_:=kf1
 obtain⟨y1,y2,_⟩:=hcell _ s2.below
 unfold slv at y2
 go_region_held3 (fun W=>W.cell? ⟨bd,0,none⟩=some (.slice (some ⟨ba,0,none⟩) (l0.length+1) cp)) (exact(hcb 0)) (fail)
 go_wp2_with (go_at_call 97;refine(unless_yes _ _).mono ?_;rintro e w' ⟨rfl,rfl⟩)
 have hszw:=s1.sz
 clear hcb hfb hD1 s1 kf1
 have happ':=fun W1 hb=>happ W1 hb
 have s3:DSt w w1.drew.drew:=s2.up ((Below.refl _ _).drew)
 obtain⟨z1,z2,_⟩:=hcell _ s3.below
 unfold slv at z2
 have hl2:=ld_row (show w1.drew.drew.heap[w.heap.size]?=_ from kf2) Tryz.underlying28 rfl info_fld
 have hnx: ∀i,Dx bd (.slice (some ⟨ba,0,none⟩) (l0.length+1) cp) (l0++[(d,p)]) i->i<w.heap.size:=fun i hi=>(hD.dx hi).2
 have hmade:=made_a A1 A2 A3 A4 c1 c2 c3 c4 f (w.heap.size+2) w1.heap.size u x d.year w1.drew.drew (hz0▸hF.up (((Below.refl _ w1).drew).drew)) (Nat.le_refl _) (by omega) ((hf.below (s3.below.mono (by omega))).more (by omega)) hszw hm hcp HE.out
 rw[HM.out]at hmade
 have kf3:w1.drew.drew.heap[w.heap.size]?=_:=kf2
 have hz3:w1.drew.drew.heap.size=w1.heap.size:=rfl
 have hbp: ∀i,blk p=some i->i<w.heap.size:=fun i hi=>hnx i (.inr (.inr ⟨(d,p),by simp,hi⟩))
 refine wp_region_held_drew (S:=fun W=>(loadVar 28 ⟨w.heap.size,0,none⟩).run Tryz.prog W=.ok (.agg (fq A1 A2 A3 A4 c1 c2 c3 c4 f)) W∧W.cell? ⟨ba,l0.length*4+1,none⟩=some (.int .i64 d.year)) (by kernel_rfl) ⟨ld_row kf2 Tryz.underlying28 rfl info_fld,y1⟩ (fun hHeld=> ?_)
 clear s2 kf2 y1 y2 hF hl2
 generalize w1.drew.drew=W3 at*
 refine takeH 0 (some 81) (v:= ?v12) rfl rfl (by kernel_rfl) (by kernel_rfl) (by kernel_rfl) (fun c a w h=>dl_put 81 _ _ (by decide) c a w h) (Or.inl ⟨by rfl,fun W hW=> ?hy12⟩) (by assumption) ?hr12
 case hy12=>(try dsimp only at hW);go_simp;try with_reducible rfl
 try simp only[Act.put,List.setIfInBounds_toArray,List.set_cons_zero,List.set_cons_succ]
 refine takeH 1 (some 82) (v:= ?v13) rfl rfl (by kernel_rfl) (by kernel_rfl) (by kernel_rfl) (fun c a w h=>dl_put 82 _ _ (by decide) c a w h) (Or.inl ⟨by rfl,fun W hW=> ?hy13⟩) (by assumption) ?hr13
 case hy13=>(try dsimp only at hW);go_simp;try with_reducible rfl
 try simp only[Act.put,List.setIfInBounds_toArray,List.set_cons_zero,List.set_cons_succ]
 refine takeH 2 (some 83) (v:= ?v14) rfl rfl (by kernel_rfl) (by kernel_rfl) (by kernel_rfl) (fun c a w h=>dl_put 83 _ _ (by decide) c a w h) (Or.inl ⟨by rfl,fun W hW=> ?hy14⟩) (by assumption) ?hr14
 case hy14=>(try dsimp only at hW);go_simp;try with_reducible rfl
 try simp only[Act.put,List.setIfInBounds_toArray,List.set_cons_zero,List.set_cons_succ]
 refine takeH 3 (some 84) (v:= ?v15) rfl rfl (by kernel_rfl) (by kernel_rfl) (by kernel_rfl) (fun c a w h=>dl_put 84 _ _ (by decide) c a w h) (Or.inl ⟨by rfl,fun W hW=> ?hy15⟩) (by assumption) ?hr15
 case hy15=>(try dsimp only at hW);go_simp;try with_reducible rfl
 try simp only[Act.put,List.setIfInBounds_toArray,List.set_cons_zero,List.set_cons_succ]
 refine takeH 5 (some 86) (v:= ?v16) rfl rfl (by kernel_rfl) (by kernel_rfl) (by kernel_rfl) (fun c a w h=>dl_put 86 _ _ (by decide) c a w h) (Or.inl ⟨by rfl,fun W hW=> ?hy16⟩) (by assumption) ?hr16
 case hy16=>(try dsimp only at hW);go_simp;try with_reducible rfl
 try simp only[Act.put,List.setIfInBounds_toArray,List.set_cons_zero,List.set_cons_succ]
 refine takeH 6 (some 87) (v:= ?v17) rfl rfl (by kernel_rfl) (by kernel_rfl) (by kernel_rfl) (fun c a w h=>dl_put 87 _ _ (by decide) c a w h) (Or.inl ⟨by rfl,fun W hW=> ?hy17⟩) (by assumption) ?hr17
 case hy17=>(try dsimp only at hW);go_simp;try with_reducible rfl
 try simp only[Act.put,List.setIfInBounds_toArray,List.set_cons_zero,List.set_cons_succ]
 refine takeH 7 (some 88) (v:= ?v18) rfl rfl (by kernel_rfl) (by kernel_rfl) (by kernel_rfl) (fun c a w h=>dl_put 88 _ _ (by decide) c a w h) (Or.inl ⟨by rfl,fun W hW=> ?hy18⟩) (by assumption) ?hr18
 case hy18=>(try dsimp only at hW);go_simp;try with_reducible rfl
 try simp only[Act.put,List.setIfInBounds_toArray,List.set_cons_zero,List.set_cons_succ]
 refine takeH 8 (some 89) (v:= ?v19) rfl rfl (by kernel_rfl) (by kernel_rfl) (by kernel_rfl) (fun c a w h=>dl_put 89 _ _ (by decide) c a w h) (Or.inl ⟨by rfl,fun W hW=> ?hy19⟩) (by assumption) ?hr19
 case hy19=>(try dsimp only at hW);go_simp;try with_reducible rfl
 try simp only[Act.put,List.setIfInBounds_toArray,List.set_cons_zero,List.set_cons_succ]
 refine takeH 9 (some 90) (v:= ?v20) rfl rfl (by kernel_rfl) (by kernel_rfl) (by kernel_rfl) (fun c a w h=>dl_put 90 _ _ (by decide) c a w h) (Or.inl ⟨by rfl,fun W hW=> ?hy20⟩) (by assumption) ?hr20
 case hy20=>(try dsimp only at hW);go_simp;try with_reducible rfl
 try simp only[Act.put,List.setIfInBounds_toArray,List.set_cons_zero,List.set_cons_succ]
 refine takeH 10 (some 91) (v:= ?v21) rfl rfl (by kernel_rfl) (by kernel_rfl) (by kernel_rfl) (fun c a w h=>dl_put 91 _ _ (by decide) c a w h) (Or.inl ⟨by rfl,fun W hW=> ?hy21⟩) (by assumption) ?hr21
 case hy21=>(try dsimp only at hW);go_simp;try with_reducible rfl
 try simp only[Act.put,List.setIfInBounds_toArray,List.set_cons_zero,List.set_cons_succ]
 refine wpAnyH_ready (rs:=[4,11]) (by kernel_rfl) (by simp) ?_
 refine readyH (some 85) rfl rfl (fun K hK=> ?_) (readyH (some 92) rfl rfl (fun K hK=> ?_) AllReadyH.nil)
 ·have y4:=z2
  go_simp
  refine hK.out _ _ ⟨ld_row kf3 Tryz.underlying28 rfl info_fld,z1⟩ (fun hHeld=> ?_)
  clear hK K
  try simp only[Act.put,List.setIfInBounds_toArray,List.set_cons_zero,List.set_cons_succ]
  refine wpAnyH_ready (rs:=[11]) (by kernel_rfl) (by simp) ?_
  refine readyH (some 92) rfl rfl (fun K hK=> ?_) AllReadyH.nil
  go_simp
  refine hmade.mono ?_
  rintro e w4 ⟨hx4,rfl⟩
  have s4:DSt w w4:=⟨s3.below.trans (hx4.mono (by omega)),Nat.le_trans s3.sz hx4.size,(hx4.block _ (by omega)).trans s3.ke⟩
  have kf4:=(hx4.block _ (by omega)).trans kf3
  obtain⟨v1,v2,_⟩:=hcell w4 s4.below
  unfold slv at v2
  refine hK.out _ _ ⟨ld_row kf4 Tryz.underlying28 rfl info_fld,v1⟩ (fun hHeld=> ?_)
  clear hK K
  try simp only[Act.put,List.setIfInBounds_toArray,List.set_cons_zero,List.set_cons_succ]
  refine wpAnyH_ready (rs:=[12]) (by kernel_rfl) (by simp) ?_
  refine readyH (some 93) rfl rfl (fun K hK=> ?_) AllReadyH.nil
  go_simp
  have s5:=s4.alloc (.cells (kq c0) 48)
  obtain⟨u1,u2,_⟩:=hcell _ s5.below
  unfold slv at u2
  have kf5:=(Below.heap_alloc w4 (.cells (kq c0) 48) _ (lO kf4)).trans kf4
  refine hK.out _ _ ⟨ld_row kf5 Tryz.underlying28 rfl info_fld,u1⟩ (fun hHeld=> ?_)
  clear hK K
  try simp only[Act.put,List.setIfInBounds_toArray,List.set_cons_zero,List.set_cons_succ]
  obtain⟨g',cap',w6,hrun,hc6,hf6,hy6,hg6,hD6,hb6,hsz6,hN6⟩:=happ w4 s4.below
  have hrun:(Builtin.append_ #[88,88] 88 #[.slice p.1 d.calls.length p.2,.slice (some ⟨w4.heap.size,0,none⟩) 1 1]).run Tryz.prog (w4.alloc (.cells (kq c0) 48))=.ok (.slice (some ⟨g',0,none⟩) (d.calls.length+1) cap') w6:=hrun
  have D6:=Lib.hid hD6
  have N6:=Lib.hid hN6
  have hs4:=s4.sz
  have kf6:=(hg6.block _ (by omega) (fun e=>by have:=hbp _ e.symm;omega)).trans kf4
  have ke6:=(hg6.block _ (by omega) (fun e=>by have:=hbp _ e.symm;omega)).trans s4.ke
  clear hD6 hN6 happ
  unfold slv at hc6
  refine wpAnyH_ready (rs:=[13]) (by kernel_rfl) (by simp) ?_
  refine readyH (some 94) rfl rfl (fun K hK=> ?_) AllReadyH.nil
  go_simp
  refine hK.out _ _ ⟨ld_row kf6 Tryz.underlying28 rfl info_fld,hy6⟩ (fun hHeld=> ?_)
  clear hK K
  try simp only[Act.put,List.setIfInBounds_toArray,List.set_cons_zero,List.set_cons_succ]
  refine wpAnyH_ready (rs:=[14]) (by kernel_rfl) (by simp) ?_
  refine readyH (some 95) rfl rfl (fun K hK=> ?_) AllReadyH.nil
  go_simp
  refine hK.out _ _ ⟨ld_row kf6 Tryz.underlying28 rfl info_fld,hy6⟩ (fun hHeld=> ?_)
  clear hK K
  try simp only[Act.put,List.setIfInBounds_toArray,List.set_cons_zero,List.set_cons_succ]
  refine wpAnyH_ready (rs:=[15]) (by kernel_rfl) (by simp) ?_
  refine readyH (some 96) rfl rfl (fun K hK=> ?_) AllReadyH.nil
  go_simp
  refine hK.out _ _ ⟨ld_row kf6 Tryz.underlying28 rfl info_fld,hy6⟩ (fun hHeld=> ?_)
  clear hK K
  try simp only[Act.put,List.setIfInBounds_toArray,List.set_cons_zero,List.set_cons_succ]
  have hba:ba<w.heap.size:=hnx ba (.inr (.inl rfl))
  have kf7:=(Below.heap_setCell w6 ⟨ba,l0.length*4+3,none⟩ (.slice (some ⟨g',0,none⟩) (d.calls.length+1) cap') w.heap.size (by simp;omega)).trans kf6
  have ke7:=(Below.heap_setCell w6 ⟨ba,l0.length*4+3,none⟩ (.slice (some ⟨g',0,none⟩) (d.calls.length+1) cap') (w.heap.size+1) (by simp;omega)).trans ke6
  have hy7:(w6.setCell ⟨ba,l0.length*4+3,none⟩ (.slice (some ⟨g',0,none⟩) (d.calls.length+1) cap')).cell? ⟨ba,l0.length*4+1,none⟩=some (.int .i64 d.year):=(World.cell?_setCell_other w6 _ _ _ (by simp)).trans hy6
  refine wpAnyH_ready (rs:=[16]) (by kernel_rfl) (by simp) ?_
  refine readyH none rfl rfl (fun K hK=> ?_) AllReadyH.nil
  go_simp
  refine hK.out _ _ ⟨ld_row kf7 Tryz.underlying28 rfl info_fld,hy7⟩ (fun hHeld=> ?_)
  clear hK K
  try simp only[Act.put,List.setIfInBounds_toArray,List.set_cons_zero,List.set_cons_succ]
  refine wpAnyH_done (by kernel_rfl) ?_ _
  obtain⟨hce,hfe⟩:=blk_cells ke7
  go_wp2_with fail
  refine leaves_cons (f:=96) (args:= #[.pointer (some ⟨w.heap.size+1,0,none⟩)]) (by simp) (by simp[go_sem]) ?_
  refine(caught_idle _ _).mono ?_
  rintro e u' w'' ⟨rfl,rfl,rfl⟩
  have ke8:=heap_setCell_same _ (w.heap.size+1) 0 _ _ (.int .i64 0) ke7
  obtain⟨hce8,hfe8⟩:=blk_cells ke8
  simp[Leaves,settle,results,Tryz.results88,go_sem,hce8]
  refine⟨⟨hb6.b.setCell (p:=⟨w.heap.size+1,0,none⟩) (by simp;omega) _,fun i hi hx=>(Below.heap_setCell _ _ _ _ (by simp;omega)).trans (hb6.k i hi hx)⟩,rfl,_,_,?_,D6.out.kept (grown_set _ _ _ _) (fun e=> ?_),fun i hi=> ?_⟩
  ·simp
  ·rcases N6.out _ e with h|h
   ·have:=hnx _ h;omega
   ·omega
  ·rcases N6.out i hi with h|h
   ·exact .inl h
   ·exact .inr (by omega)
 ·skip
  go_simp
  refine hmade.mono ?_
  rintro e w4 ⟨hx4,rfl⟩
  have s4:DSt w w4:=⟨s3.below.trans (hx4.mono (by omega)),Nat.le_trans s3.sz hx4.size,(hx4.block _ (by omega)).trans s3.ke⟩
  have kf4:=(hx4.block _ (by omega)).trans kf3
  obtain⟨v1,v2,_⟩:=hcell w4 s4.below
  unfold slv at v2
  refine hK.out _ _ ⟨ld_row kf4 Tryz.underlying28 rfl info_fld,v1⟩ (fun hHeld=> ?_)
  clear hK K
  try simp only[Act.put,List.setIfInBounds_toArray,List.set_cons_zero,List.set_cons_succ]
  refine wpAnyH_ready (rs:=[4,12]) (by kernel_rfl) (by simp) ?_
  refine readyH (some 85) rfl rfl (fun K hK=> ?_) (readyH (some 93) rfl rfl (fun K hK=> ?_) AllReadyH.nil)
  ·skip
   go_simp
   refine hK.out _ _ ⟨ld_row kf4 Tryz.underlying28 rfl info_fld,v1⟩ (fun hHeld=> ?_)
   clear hK K
   try simp only[Act.put,List.setIfInBounds_toArray,List.set_cons_zero,List.set_cons_succ]
   refine wpAnyH_ready (rs:=[12]) (by kernel_rfl) (by simp) ?_
   refine readyH (some 93) rfl rfl (fun K hK=> ?_) AllReadyH.nil
   go_simp
   have s5:=s4.alloc (.cells (kq c0) 48)
   obtain⟨u1,u2,_⟩:=hcell _ s5.below
   unfold slv at u2
   have kf5:=(Below.heap_alloc w4 (.cells (kq c0) 48) _ (lO kf4)).trans kf4
   refine hK.out _ _ ⟨ld_row kf5 Tryz.underlying28 rfl info_fld,u1⟩ (fun hHeld=> ?_)
   clear hK K
   try simp only[Act.put,List.setIfInBounds_toArray,List.set_cons_zero,List.set_cons_succ]
   obtain⟨g',cap',w6,hrun,hc6,hf6,hy6,hg6,hD6,hb6,hsz6,hN6⟩:=happ w4 s4.below
   have hrun:(Builtin.append_ #[88,88] 88 #[.slice p.1 d.calls.length p.2,.slice (some ⟨w4.heap.size,0,none⟩) 1 1]).run Tryz.prog (w4.alloc (.cells (kq c0) 48))=.ok (.slice (some ⟨g',0,none⟩) (d.calls.length+1) cap') w6:=hrun
   have D6:=Lib.hid hD6
   have N6:=Lib.hid hN6
   have hs4:=s4.sz
   have kf6:=(hg6.block _ (by omega) (fun e=>by have:=hbp _ e.symm;omega)).trans kf4
   have ke6:=(hg6.block _ (by omega) (fun e=>by have:=hbp _ e.symm;omega)).trans s4.ke
   clear hD6 hN6 happ
   unfold slv at hc6
   refine wpAnyH_ready (rs:=[13]) (by kernel_rfl) (by simp) ?_
   refine readyH (some 94) rfl rfl (fun K hK=> ?_) AllReadyH.nil
   go_simp
   refine hK.out _ _ ⟨ld_row kf6 Tryz.underlying28 rfl info_fld,hy6⟩ (fun hHeld=> ?_)
   clear hK K
   try simp only[Act.put,List.setIfInBounds_toArray,List.set_cons_zero,List.set_cons_succ]
   refine wpAnyH_ready (rs:=[14]) (by kernel_rfl) (by simp) ?_
   refine readyH (some 95) rfl rfl (fun K hK=> ?_) AllReadyH.nil
   go_simp
   refine hK.out _ _ ⟨ld_row kf6 Tryz.underlying28 rfl info_fld,hy6⟩ (fun hHeld=> ?_)
   clear hK K
   try simp only[Act.put,List.setIfInBounds_toArray,List.set_cons_zero,List.set_cons_succ]
   refine wpAnyH_ready (rs:=[15]) (by kernel_rfl) (by simp) ?_
   refine readyH (some 96) rfl rfl (fun K hK=> ?_) AllReadyH.nil
   go_simp
   refine hK.out _ _ ⟨ld_row kf6 Tryz.underlying28 rfl info_fld,hy6⟩ (fun hHeld=> ?_)
   clear hK K
   try simp only[Act.put,List.setIfInBounds_toArray,List.set_cons_zero,List.set_cons_succ]
   have hba:ba<w.heap.size:=hnx ba (.inr (.inl rfl))
   have kf7:=(Below.heap_setCell w6 ⟨ba,l0.length*4+3,none⟩ (.slice (some ⟨g',0,none⟩) (d.calls.length+1) cap') w.heap.size (by simp;omega)).trans kf6
   have ke7:=(Below.heap_setCell w6 ⟨ba,l0.length*4+3,none⟩ (.slice (some ⟨g',0,none⟩) (d.calls.length+1) cap') (w.heap.size+1) (by simp;omega)).trans ke6
   have hy7:(w6.setCell ⟨ba,l0.length*4+3,none⟩ (.slice (some ⟨g',0,none⟩) (d.calls.length+1) cap')).cell? ⟨ba,l0.length*4+1,none⟩=some (.int .i64 d.year):=(World.cell?_setCell_other w6 _ _ _ (by simp)).trans hy6
   refine wpAnyH_ready (rs:=[16]) (by kernel_rfl) (by simp) ?_
   refine readyH none rfl rfl (fun K hK=> ?_) AllReadyH.nil
   go_simp
   refine hK.out _ _ ⟨ld_row kf7 Tryz.underlying28 rfl info_fld,hy7⟩ (fun hHeld=> ?_)
   clear hK K
   try simp only[Act.put,List.setIfInBounds_toArray,List.set_cons_zero,List.set_cons_succ]
   refine wpAnyH_done (by kernel_rfl) ?_ _
   obtain⟨hce,hfe⟩:=blk_cells ke7
   go_wp2_with fail
   refine leaves_cons (f:=96) (args:= #[.pointer (some ⟨w.heap.size+1,0,none⟩)]) (by simp) (by simp[go_sem]) ?_
   refine(caught_idle _ _).mono ?_
   rintro e u' w'' ⟨rfl,rfl,rfl⟩
   have ke8:=heap_setCell_same _ (w.heap.size+1) 0 _ _ (.int .i64 0) ke7
   obtain⟨hce8,hfe8⟩:=blk_cells ke8
   simp[Leaves,settle,results,Tryz.results88,go_sem,hce8]
   refine⟨⟨hb6.b.setCell (p:=⟨w.heap.size+1,0,none⟩) (by simp;omega) _,fun i hi hx=>(Below.heap_setCell _ _ _ _ (by simp;omega)).trans (hb6.k i hi hx)⟩,rfl,_,_,?_,D6.out.kept (grown_set _ _ _ _) (fun e=> ?_),fun i hi=> ?_⟩
   ·simp
   ·rcases N6.out _ e with h|h
    ·have:=hnx _ h;omega
    ·omega
   ·rcases N6.out i hi with h|h
    ·exact .inl h
    ·exact .inr (by omega)
  ·skip
   go_simp
   have s5:=s4.alloc (.cells (kq c0) 48)
   obtain⟨u1,u2,_⟩:=hcell _ s5.below
   unfold slv at u2
   have kf5:=(Below.heap_alloc w4 (.cells (kq c0) 48) _ (lO kf4)).trans kf4
   refine hK.out _ _ ⟨ld_row kf5 Tryz.underlying28 rfl info_fld,u1⟩ (fun hHeld=> ?_)
   clear hK K
   try simp only[Act.put,List.setIfInBounds_toArray,List.set_cons_zero,List.set_cons_succ]
   refine wpAnyH_ready (rs:=[4]) (by kernel_rfl) (by simp) ?_
   refine readyH (some 85) rfl rfl (fun K hK=> ?_) AllReadyH.nil
   go_simp
   refine hK.out _ _ ⟨ld_row kf5 Tryz.underlying28 rfl info_fld,u1⟩ (fun hHeld=> ?_)
   clear hK K
   try simp only[Act.put,List.setIfInBounds_toArray,List.set_cons_zero,List.set_cons_succ]
   obtain⟨g',cap',w6,hrun,hc6,hf6,hy6,hg6,hD6,hb6,hsz6,hN6⟩:=happ w4 s4.below
   have hrun:(Builtin.append_ #[88,88] 88 #[.slice p.1 d.calls.length p.2,.slice (some ⟨w4.heap.size,0,none⟩) 1 1]).run Tryz.prog (w4.alloc (.cells (kq c0) 48))=.ok (.slice (some ⟨g',0,none⟩) (d.calls.length+1) cap') w6:=hrun
   have D6:=Lib.hid hD6
   have N6:=Lib.hid hN6
   have hs4:=s4.sz
   have kf6:=(hg6.block _ (by omega) (fun e=>by have:=hbp _ e.symm;omega)).trans kf4
   have ke6:=(hg6.block _ (by omega) (fun e=>by have:=hbp _ e.symm;omega)).trans s4.ke
   clear hD6 hN6 happ
   unfold slv at hc6
   refine wpAnyH_ready (rs:=[13]) (by kernel_rfl) (by simp) ?_
   refine readyH (some 94) rfl rfl (fun K hK=> ?_) AllReadyH.nil
   go_simp
   refine hK.out _ _ ⟨ld_row kf6 Tryz.underlying28 rfl info_fld,hy6⟩ (fun hHeld=> ?_)
   clear hK K
   try simp only[Act.put,List.setIfInBounds_toArray,List.set_cons_zero,List.set_cons_succ]
   refine wpAnyH_ready (rs:=[14]) (by kernel_rfl) (by simp) ?_
   refine readyH (some 95) rfl rfl (fun K hK=> ?_) AllReadyH.nil
   go_simp
   refine hK.out _ _ ⟨ld_row kf6 Tryz.underlying28 rfl info_fld,hy6⟩ (fun hHeld=> ?_)
   clear hK K
   try simp only[Act.put,List.setIfInBounds_toArray,List.set_cons_zero,List.set_cons_succ]
   refine wpAnyH_ready (rs:=[15]) (by kernel_rfl) (by simp) ?_
   refine readyH (some 96) rfl rfl (fun K hK=> ?_) AllReadyH.nil
   go_simp
   refine hK.out _ _ ⟨ld_row kf6 Tryz.underlying28 rfl info_fld,hy6⟩ (fun hHeld=> ?_)
   clear hK K
   try simp only[Act.put,List.setIfInBounds_toArray,List.set_cons_zero,List.set_cons_succ]
   have hba:ba<w.heap.size:=hnx ba (.inr (.inl rfl))
   have kf7:=(Below.heap_setCell w6 ⟨ba,l0.length*4+3,none⟩ (.slice (some ⟨g',0,none⟩) (d.calls.length+1) cap') w.heap.size (by simp;omega)).trans kf6
   have ke7:=(Below.heap_setCell w6 ⟨ba,l0.length*4+3,none⟩ (.slice (some ⟨g',0,none⟩) (d.calls.length+1) cap') (w.heap.size+1) (by simp;omega)).trans ke6
   have hy7:(w6.setCell ⟨ba,l0.length*4+3,none⟩ (.slice (some ⟨g',0,none⟩) (d.calls.length+1) cap')).cell? ⟨ba,l0.length*4+1,none⟩=some (.int .i64 d.year):=(World.cell?_setCell_other w6 _ _ _ (by simp)).trans hy6
   refine wpAnyH_ready (rs:=[16]) (by kernel_rfl) (by simp) ?_
   refine readyH none rfl rfl (fun K hK=> ?_) AllReadyH.nil
   go_simp
   refine hK.out _ _ ⟨ld_row kf7 Tryz.underlying28 rfl info_fld,hy7⟩ (fun hHeld=> ?_)
   clear hK K
   try simp only[Act.put,List.setIfInBounds_toArray,List.set_cons_zero,List.set_cons_succ]
   refine wpAnyH_done (by kernel_rfl) ?_ _
   obtain⟨hce,hfe⟩:=blk_cells ke7
   go_wp2_with fail
   refine leaves_cons (f:=96) (args:= #[.pointer (some ⟨w.heap.size+1,0,none⟩)]) (by simp) (by simp[go_sem]) ?_
   refine(caught_idle _ _).mono ?_
   rintro e u' w'' ⟨rfl,rfl,rfl⟩
   have ke8:=heap_setCell_same _ (w.heap.size+1) 0 _ _ (.int .i64 0) ke7
   obtain⟨hce8,hfe8⟩:=blk_cells ke8
   simp[Leaves,settle,results,Tryz.results88,go_sem,hce8]
   refine⟨⟨hb6.b.setCell (p:=⟨w.heap.size+1,0,none⟩) (by simp;omega) _,fun i hi hx=>(Below.heap_setCell _ _ _ _ (by simp;omega)).trans (hb6.k i hi hx)⟩,rfl,_,_,?_,D6.out.kept (grown_set _ _ _ _) (fun e=> ?_),fun i hi=> ?_⟩
   ·simp
   ·rcases N6.out _ e with h|h
    ·have:=hnx _ h;omega
    ·omega
   ·rcases N6.out i hi with h|h
    ·exact .inl h
    ·exact .inr (by omega)
namespace Pl
variable (A1 A2 A3 A4 : Option Addr) (c1 c2 c3 c4 : Nat) (f : Pl.Fld)
theorem dl_read (f:Fld)(all:List Ded)(ws:List ByteArray):deedLine f all (wDeed::ws)=match (nameR ws).bind fun p=>(Go.Proofs.YtgbpekeoegfjpaaGreatDoor.numR p.2).bind fun q=>(Go.Proofs.YtgbpekeoegfjpaaGreatDoor.numR q.2).bind fun s=>if s.2=[]then some (p.1,q.1,s.1)else Option.none with
  |some (n,y,r)=>if 60<=all.length then .error 2 else if ¬(1<=y∧y<=3000∧0<=r∧r<=1000)then .error 1 else if all.any (fun d=>decide (d.name=n))=true then .error 6 else .ok (all++[⟨n,y,r,[]⟩])
  |Option.none=> .error 4:=by
 unfold deedLine
 rw[if_pos (show(wDeed::ws).head?=some wDeed from rfl)]
 match ws with
 | []=>rfl
 | [a]=>cases h:isName a<;>simp[nameR,Go.Proofs.YtgbpekeoegfjpaaGreatDoor.numR,h]
 | [a,b]=>cases h:isName a<;>cases h2:numF b<;>simp[nameR,Go.Proofs.YtgbpekeoegfjpaaGreatDoor.numR,h,h2]
 | [a,b,c]=>cases h:isName a<;>cases h2:numF b<;>cases h3:numF c<;>simp[nameR,Go.Proofs.YtgbpekeoegfjpaaGreatDoor.numR,h,h2,h3]
 |a::b::c::d::e=>cases h:isName a<;>cases h2:numF b<;>cases h3:numF c<;>simp[nameR,Go.Proofs.YtgbpekeoegfjpaaGreatDoor.numR,h,h2,h3]
theorem dl_form {f:Fld}{all:List Ded}{k:ByteArray}{ws:List ByteArray}(hk:k≠wDeed):deedLine f all (k::ws)=match form (k::ws)with
  |Option.none=> .error 4
  | some x=>match all.getLast? with
   |Option.none=> .error 4
   |some d=>if 20<=d.calls.length then .error 2 else match madeC f x d.year with
    | .error e=> .error e
    | .ok c=> .ok (all.dropLast++[{d with calls:=d.calls++[c]}]):=by
 unfold deedLine
 rw[if_neg (by simpa using hk)]
 rfl
end Pl
set_option maxHeartbeats 1000000 in
theorem deedLine_a (bd:Nat) (l:List (Pl.Ded×Option Addr×Nat)) (v:Value) (A:Option Addr) (c:Nat) (ws:List ByteArray) (w:World) (hEv:Env w) (hD:DInv bd l w v) (h8:8<=bd)
  (hw:Nms w w.heap.size A ws) (hc:ws.length<=c) (hs:Sizes ws) (hne:ws≠ []) (hf:FldS w bd A1 A2 A3 A4 f) (hm:Small f) (hcp:Caps c1 c2 c3 c4 f) (hE:Pl.fieldE f=0):
  Calls Tryz.prog 88 #[.agg (fq A1 A2 A3 A4 c1 c2 c3 c4 f),.pointer (some ⟨bd,0,none⟩),.slice A ws.length c] w (EndD bd l v w (Pl.deedLine f (l.map (·.1)) ws)):=by
 cases ws with
 |nil=>exact absurd rfl hne
 |cons k ws=>
 obtain⟨_,_,hs1⟩:=hs.tail
 by_cases hk:k=Pl.wDeed
 ·subst hk
  cases h1:nameR ws with
  | none=>
   rw[Pl.dl_read,h1]
   by_cases hn:ws=[]
   ·subst hn
    exact(dedL_nil A1 A2 A3 A4 c1 c2 c3 c4 f bd l v A c w hEv hD h8 hw (by simpa using hc)).mono fun _ _ h=>h
   ·exact(dedL_name A1 A2 A3 A4 c1 c2 c3 c4 f bd l v A c ws w hEv hD h8 hw (by simpa using hc) hs1 h1 hn).mono fun _ _ h=>h
  | some p=>
   obtain⟨a,r⟩:=p
   cases h2:numR r with
   |none=>
    have hr:Pl.deedLine f (l.map (·.1)) (Pl.wDeed::ws)=.error 4:=by rw[Pl.dl_read,h1];simp[h2]
    rw[hr]
    exact(dedL_num1 A1 A2 A3 A4 c1 c2 c3 c4 f bd l v A c ws w hEv hD h8 hw (by simpa using hc) hs1 a r h1 h2).mono fun _ _ h=>h
   | some q=>
    obtain⟨y,r2⟩:=q
    cases h3:numR r2 with
    |none=>
     have hr:Pl.deedLine f (l.map (·.1)) (Pl.wDeed::ws)=.error 4:=by rw[Pl.dl_read,h1];simp[h2,h3]
     rw[hr]
     exact(dedL_num2 A1 A2 A3 A4 c1 c2 c3 c4 f bd l v A c ws w hEv hD h8 hw (by simpa using hc) hs1 a r r2 y h1 h2 h3).mono fun _ _ h=>h
    | some q3=>
     obtain⟨z,r3⟩:=q3
     cases r3 with
     |cons x r3=>
      have hr:Pl.deedLine f (l.map (·.1)) (Pl.wDeed::ws)=.error 4:=by rw[Pl.dl_read,h1];simp[h2,h3]
      rw[hr]
      exact(dedL_end A1 A2 A3 A4 c1 c2 c3 c4 f bd l v A c ws w hEv hD h8 hw (by simpa using hc) hs1 a x r r2 r3 y z h1 h2 h3).mono fun _ _ h=>h
     | nil=>
      have hr:Pl.deedLine f (l.map (·.1)) (Pl.wDeed::ws)=if 60<=l.length then .error 2 else if ¬(1<=y∧y<=3000∧0<=z∧z<=1000)then .error 1 else if (l.any fun x=>decide (x.1.name=a))=true then .error 6 else .ok (l.map (·.1)++[⟨a,y,z,[]⟩]):=by
       have ha:(l.map (·.1)).any (fun d=>decide (d.name=a))=l.any fun x=>decide (x.1.name=a):=by rw[List.any_map];rfl
       rw[Pl.dl_read,h1];simp[h2,h3];first|rw[ha]|(split;rfl;split;rfl;rw[ha])
      rw[hr]
      have hir:(Pl.inB y 1 3000&&Pl.inB z 0 1000)=decide (1<=y∧y<=3000∧0<=z∧z<=1000):=by unfold Pl.inB;rw[Bool.eq_iff_iff];simp;omega
      by_cases h4:60<=l.length
      ·rw[if_pos h4]
       exact(dedL_lim A1 A2 A3 A4 c1 c2 c3 c4 f bd l v A c ws w hEv hD h8 hw (by simpa using hc) hs1 a r r2 y z h1 h2 h3 (by simp;omega)).mono fun _ _ h=>h
      rw[if_neg h4]
      by_cases h5:1<=y∧y<=3000∧0<=z∧z<=1000
      ·rw[if_neg (fun h=>h h5)]
       cases h6:(l.any fun x=>decide (x.1.name=a))with
       |true=>
        rw[if_pos rfl]
        exact(dedL_twice A1 A2 A3 A4 c1 c2 c3 c4 f bd l v A c ws w hEv hD h8 hw (by simpa using hc) hs1 a r r2 y z h1 h2 h3 (by simp;omega) (by rw[hir];exact decide_eq_true h5) h6).mono fun _ _ h=>h
       |false=>
        rw[if_neg (by simp)]
        exact dedL_ok A1 A2 A3 A4 c1 c2 c3 c4 f bd l v A c ws w hEv hD h8 hw (by simpa using hc) hs1 a r r2 y z h1 h2 h3 (by simp;omega) (by rw[hir];exact decide_eq_true h5) h6
      ·rw[if_pos h5]
       exact(dedL_dat A1 A2 A3 A4 c1 c2 c3 c4 f bd l v A c ws w hEv hD h8 hw (by simpa using hc) hs1 a r r2 y z h1 h2 h3 (by simp;omega) (by rw[hir];exact decide_eq_false h5)).mono fun _ _ h=>h
 ·rw [Pl.dl_form hk]
  cases hfo:Pl.form (k::ws)with
  |none=>exact(frmL_none A1 A2 A3 A4 c1 c2 c3 c4 f bd l v A c k ws w hEv hD h8 hw hc hs hk hfo).mono fun _ _ h=>h
  | some x=>
   rcases List.eq_nil_or_concat l with hl|⟨l0,⟨d,p⟩,hl⟩
   ·subst hl
    exact(frmL_empty A1 A2 A3 A4 c1 c2 c3 c4 f bd [] v A c k ws w hEv hD h8 hw hc hs hk x hfo rfl).mono fun _ _ h=>h
   ·rw[List.concat_eq_append]at hl
    have hg:(l.map (·.1)).getLast?=some d:=by rw[hl];simp
    have hd:(l.map (·.1)).dropLast=l0.map (·.1):=by rw[hl];simp
    rw[hg,hd]
    simp only
    by_cases h20:20<=d.calls.length
    ·rw[if_pos h20]
     exact(frmL_full A1 A2 A3 A4 c1 c2 c3 c4 f bd l v A c k ws w hEv hD h8 hw hc hs hk x hfo l0 d p hl (by simp;omega)).mono fun _ _ h=>h
    ·rw[if_neg h20]
     cases hmd:Pl.madeC f x d.year with
     |error E=>exact(frmL_err A1 A2 A3 A4 c1 c2 c3 c4 f bd l v A c k ws w hEv hD h8 hw hc hs hk x hfo l0 d p hl (by simp;omega) E hmd hf hm hcp hE).mono fun _ _ h=>h
     |ok c0=>exact frmL_ok A1 A2 A3 A4 c1 c2 c3 c4 f bd l v A c k ws w hEv hD h8 hw hc hs hk x hfo l0 d p hl (by simp;omega) c0 hmd hf hm hcp hE
end Go.Proofs.YtgbpekeoegfjpaaGreatDoor
set_option maxRecDepth 100000
namespace Go.Proofs.YtgbpekeoegfjpaaGreatDoor
open Go.RowKit Go.Shelf
attribute [local go_sem] Oper.semAt_some
attribute [-go_sem] storeVar
namespace Pl
noncomputable def stepD (f:Fld)(ds:List Ded)(_k:Nat)(ws:List ByteArray):Option (List Ded):=match deedLine f ds ws with
 | .ok a=>some a
 | .error _=>Option.none
theorem stepD_ok {f:Fld}{ds a:List Ded}{k:Nat}{ws:List ByteArray}(h:deedLine f ds ws=.ok a):stepD f ds k ws=some a:=by unfold stepD;rw[h]
theorem stepD_no {f:Fld}{ds:List Ded}{k:Nat}{ws:List ByteArray}{E:Int}(h:deedLine f ds ws=.error E):stepD f ds k ws=Option.none:=by unfold stepD;rw[h]
theorem madeC_err {f:Fld}{x:Frm}{y E:Int}(h:madeC f x y=.error E):E≠0:=by
 unfold madeC at h
 split at h
 ·split at h
  ·cases h
  ·rename_i hne
   cases h
   exact hne
 ·cases h
  decide
theorem deedLine_err {f:Fld}{ds:List Ded}{ws:List ByteArray}{E:Int}(h:deedLine f ds ws=.error E):E≠0:=by
 unfold deedLine at h
 split at h
 ·split at h
  ·split at h
   ·split at h
    ·cases h;decide
    ·split at h
     ·cases h;decide
     ·split at h
      ·cases h;decide
      ·cases h
   ·cases h;decide
  ·cases h;decide
 ·split at h
  ·cases h;decide
  ·split at h
   ·cases h;decide
   ·split at h
    ·cases h;decide
    ·split at h
     ·rename_i hm
      cases h
      exact madeC_err hm
     ·cases h
theorem deedsGo_run (f:Fld): ∀(L:List (List ByteArray)) (ds:List Ded) (n:Nat),deedsGo f ds n L=(match runG (stepD f) n ds L with
  | .inl a=>(a,0,0)
  | .inr (s,k,ws)=>match deedLine f s ws with
   | .ok _=>([],0,(k:Int))
   | .error E=>([],E,(k:Int)))
 | [],ds,n=>rfl
 | ws::L,ds,n=>by
  unfold deedsGo
  by_cases h:ws=[]
  ·subst h
   rw[if_pos rfl,runG_blank]
   exact deedsGo_run f L ds (n+1)
  ·rw[if_neg h]
   cases hl:deedLine f ds ws with
   |ok a=>
    rw[runG_ok h (stepD_ok hl)]
    exact deedsGo_run f L a (n+1)
   |error E=>
    rw[runG_no h (stepD_no hl)]
    simp[hl]
end Pl
abbrev Cals := @Seg Pl.Cal encCl 13
structure DedS (w:World)(B:Nat)(A:Option Addr)(l:List (Pl.Ded×Option Addr×Nat)):Prop where
 row:Dds w B A l
 own: ∀x∈l,Cals w B x.2.1 x.1.calls
theorem DInv.deds {bd:Nat}{l:List (Pl.Ded×Option Addr×Nat)}{W:World}{v:Value}(h:DInv bd l W v): ∃A c,v=.slice A l.length c∧DedS W W.heap.size A l∧l.length<=c:=by
 obtain⟨A,c,hv,hs,hc,_⟩:=own_seg lay_dd h.row
 refine⟨A,c,hv,⟨hs,fun x hx=> ?_⟩,hc⟩
 obtain⟨A',c',hv',hs',_⟩:=own_seg lay_cl (h.own x hx)
 have:x.2.1=A':=by unfold slv at hv';cases hv';rfl
 rw[this]
 exact hs'
def EndDs (r:List Pl.Ded×Int×Int)(w:World)(e:Ending)(w':World):Prop:=
 ∃l A c,l.map (·.1)=r.1∧e=.returned (.tuple #[.slice A l.length c,.agg (i2 r.2.1 r.2.2)])∧DedS w' w'.heap.size A l∧Below w.heap.size w w'
structure DG (A1 A2 A3 A4:Option Addr)(c1 c2 c3 c4:Nat)(f:Pl.Fld)(w:World)(N:Nat)(src:ByteArray)(ds:List Pl.Ded)(W:World):Prop where
 below:Below w.heap.size w W
 lt:w.heap.size+3<=N
 sz:N+4<=W.heap.size
 kf:W.heap[w.heap.size]?=some (.cells (fq A1 A2 A3 A4 c1 c2 c3 c4 f) 28 (0,0))
 r1:W.heap[w.heap.size+1]?=some (.cells #[.slice none 0 0] 38 (0,0))
 r2:W.heap[w.heap.size+2]?=some (.cells (i2 0 0) 31 (0,0))
 dd: ∃l v,l.map (·.1)=ds∧DInv N l W v∧ ∀i,Dx N v l i->i=N∨N+5<=i
 ks:W.heap[N+1]?=some (.cells #[.string src] 9 (0,0))
section
variable {A1 A2 A3 A4 : Option Addr} {c1 c2 c3 c4 : Nat} {f : Pl.Fld} {w : World} {N : Nat} {src : ByteArray} {ds : List Pl.Ded} {W W' : World}
theorem DG.grow (h:DG A1 A2 A3 A4 c1 c2 c3 c4 f w N src ds W)(hb:Below W.heap.size W W'):DG A1 A2 A3 A4 c1 c2 c3 c4 f w N src ds W':=by
 obtain⟨h1,h2,h3,h4,h5,h6,⟨l,v,hl,hD,hx⟩,h8⟩:=h
 exact⟨h1.trans (hb.mono h1.size),h2,Nat.le_trans h3 hb.size,(hb.block _ (by omega)).trans h4,(hb.block _ (by omega)).trans h5,(hb.block _ (by omega)).trans h6,⟨l,v,hl,hD.below hb,hx⟩,(hb.block _ (by omega)).trans h8⟩
theorem DG.put {o:Obj}(h:DG A1 A2 A3 A4 c1 c2 c3 c4 f w N src ds W):DG A1 A2 A3 A4 c1 c2 c3 c4 f w N src ds (W.putObj (N+3) o):=by
 obtain⟨h1,h2,h3,h4,h5,h6,⟨l,v,hl,hD,hx⟩,h8⟩:=h
 have hg:=grownBy_putObj' W (N+3) o
 exact⟨h1.grown hg h1.size (fun k e=>by cases e;omega),h2,by have:=hg.size;omega,(World.putObj_heap_other (by omega)).trans h4,(World.putObj_heap_other (by omega)).trans h5,(World.putObj_heap_other (by omega)).trans h6,
  ⟨l,v,hl,hD.kept hg (fun e=>by have:=hx _ e;omega),hx⟩,(World.putObj_heap_other (by omega)).trans h8⟩
theorem DG.next {l:List (Pl.Ded×Option Addr×Nat)}{v:Value}(h:DG A1 A2 A3 A4 c1 c2 c3 c4 f w N src ds W)(h5:N+5<=W.heap.size)(hx: ∀i,Dx N v l i->i=N∨N+5<=i)(hB:BelowE N (Dx N v l) W W'){ds':List Pl.Ded}{l':List (Pl.Ded×Option Addr×Nat)}{v':Value}(hl:l'.map (·.1)=ds')(hD:DInv N l' W' v')
  (hN: ∀i,Dx N v' l' i->Dx N v l i∨W.heap.size<=i):DG A1 A2 A3 A4 c1 c2 c3 c4 f w N src ds' W':=by
 obtain⟨g1,g2,g3,g4,g5,g6,_,g8⟩:=h
 refine⟨g1.trans (hB.b.mono (by omega)),g2,by have:=hB.b.size;omega,(hB.b.block _ (by omega)).trans g4,(hB.b.block _ (by omega)).trans g5,(hB.b.block _ (by omega)).trans g6,⟨l',v',hl,hD,fun i hi=> ?_⟩,(hB.k _ (by omega) (fun e=>by have:=hx _ e;omega)).trans g8⟩
 rcases hN i hi with h|h
 ·exact hx i h
 ·exact .inr (by omega)
end
structure SD where
 ds:List Pl.Ded
 on:Bool
 pend:Option LX
structure JD (A1 A2 A3 A4:Option Addr)(c1 c2 c3 c4:Nat)(f:Pl.Fld)(w:World)(N:Nat)(src:ByteArray)(s:SD)(W:World):Prop where
 di:DG A1 A2 A3 A4 c1 c2 c3 c4 f w N src s.ds W
 off:s.on=false->W.heap.size=N+4
 row:s.on=true->W.heap[N+4]?=some (.cells ((Pl.splitV 10 src).map Value.string).toArray 9 (0,0))
 pend: ∀x,s.pend=some x->Nms W W.heap.size (some ⟨x.2.1,0,none⟩) x.2.2.2∧x.2.2.2.length<=x.2.2.1∧Sizes x.2.2.2∧x.2.2.2≠ []
theorem JD.put {A1 A2 A3 A4:Option Addr}{c1 c2 c3 c4:Nat}{f:Pl.Fld}{w:World}{N:Nat}{src:ByteArray}{s:SD}{W:World}{r:Loop}(r':Loop)(h:JD A1 A2 A3 A4 c1 c2 c3 c4 f w N src s W)(hl:W.heap[N+3]?=some (.loop r)):JD A1 A2 A3 A4 c1 c2 c3 c4 f w N src s (W.putObj (N+3) (.loop r')):=by
 obtain⟨h1,h2,h3,h4⟩:=h
 have hs:(W.putObj (N+3) (.loop r')).heap.size=W.heap.size:=by simp[World.putObj]
 refine⟨h1.put,fun e=>hs.trans (h2 e),fun e=>(World.putObj_heap_other (by omega)).trans (h3 e),fun x hx=> ?_⟩
 obtain⟨q1,q2⟩:=h4 x hx
 rw[hs]
 have hlt:=(lO hl)
 refine⟨q1.keep fun p hp=> ?_,q2⟩
 by_cases e:p.block=N+3
 ·have e1:(W.putObj (N+3) (.loop r')).heap[p.block]?=some (.loop r'):=by rw[e];exact World.putObj_heap_same hlt
  have e2:W.heap[p.block]?=some (.loop r):=by rw[e];exact hl
  simp[World.cell?,e1,e2]
 ·exact World.cell?_of_block (World.putObj_heap_other (by omega))
noncomputable def nextD (f:Pl.Fld)(s:SD)(x:LX):Option SD:=match Pl.deedLine f s.ds x.2.2.2 with
 | .ok a=>some ⟨a,true,none⟩
 | .error _=>none
structure XE (w:World)(N:Nat)(E:Int)(x:LX)(W:World):Prop where
 below:Below w.heap.size w W
 lt:w.heap.size+3<=N
 r1:W.heap[w.heap.size+1]?=some (.cells #[.slice none 0 0] 38 (0,0))
 r2:W.heap[w.heap.size+2]?=some (.cells (i2 E (x.1:Int)) 31 (0,0))
def IxD (f:Pl.Fld)(w:World)(N:Nat)(s:SD)(x:LX)(W:World):Prop:= ∃E,Pl.deedLine f s.ds x.2.2.2=.error E∧XE w N E x W
theorem IxD.put {f:Pl.Fld}{w:World}{N:Nat}{s:SD}{x:LX}{W:World}{o':Obj}(h:IxD f w N s x W):IxD f w N s x (W.putObj (N+3) o'):=by
 obtain⟨E,h0,h1,hl,h3,h4⟩:=h
 exact⟨E,h0,h1.grown (grownBy_putObj' W (N+3) o') h1.size (fun k e=>by cases e;omega),hl,(World.putObj_heap_other (by omega)).trans h3,(World.putObj_heap_other (by omega)).trans h4⟩
set_option maxHeartbeats 4000000 in
theorem parseDeeds_a (A1 A2 A3 A4:Option Addr)(c1 c2 c3 c4:Nat)(f:Pl.Fld)(src:ByteArray)(w:World)(hEv:Env w)(hf:FldS w w.heap.size A1 A2 A3 A4 f)(hm:Small f)(hc:Caps c1 c2 c3 c4 f)(hs:src.size<=20000)(hE:Pl.fieldE f=0):Calls Tryz.prog 24 #[.agg (fq A1 A2 A3 A4 c1 c2 c3 c4 f),.string src] w (EndDs (Pl.parseDeeds f src) w):=by
 have hP:Hid (Pl.parseDeeds f src=(match Pl.runG (Pl.stepD f) 0 [] ((Pl.splitV 10 src).map Pl.wordsB)with
  | .inl a=>(a,0,0)
  | .inr (s,k,ws)=>match Pl.deedLine f s ws with
   | .ok _=>([],0,(k:Int))
   | .error E=>([],E,(k:Int)))):=Lib.hid (by
  unfold Pl.parseDeeds
  rw[if_neg (fun h=>h hE),if_neg (by omega),Pl.linesB_split]
  exact Pl.deedsGo_run f _ [] 0)
 have hE0:=hE
 have HE:=Lib.hid hE
 clear hE
 refine(callsIn_wide (n:=3)).1 ?_
 refine callsIn_of_wp_marks Tryz.func24 rfl trivial ?_ rfl
 simp only[Tryz.ntmps24,List.size_toArray,List.length_cons,List.length_nil,Nat.reduceAdd,Nat.reduceSub,Array.replicate_succ,Array.replicate_zero,List.push_toArray,List.append_toArray,List.nil_append,List.cons_append]
 have kf:=heap_alloc2_old w (.cells (fq A1 A2 A3 A4 c1 c2 c3 c4 f) 28) (.cells #[.slice none 0 0] 38)
 have kr1:=heap_alloc2_new w (.cells (fq A1 A2 A3 A4 c1 c2 c3 c4 f) 28) (.cells #[.slice none 0 0] 38)
 have kr2:=heap_alloc_new ((w.alloc (.cells (fq A1 A2 A3 A4 c1 c2 c3 c4 f) 28)).alloc (.cells #[.slice none 0 0] 38)) (.cells (i2 0 0) 31)
 simp only[World.size_alloc]at kr2
 have kf:=(Below.heap_alloc _ (.cells (i2 0 0) 31) _ (lO kf)).trans kf
 have kr1:=(Below.heap_alloc _ (.cells (i2 0 0) 31) _ (lO kr1)).trans kr1
 have hb0:Below w.heap.size w (((w.alloc (.cells (fq A1 A2 A3 A4 c1 c2 c3 c4 f) 28)).alloc (.cells #[.slice none 0 0] 38)).alloc (.cells (i2 0 0) 31)):=(((Below.refl _ w).alloc (Nat.le_refl _) _).alloc (by simp) _).alloc (by simp only[World.size_alloc];omega) _
 gi_wp2_with (first
  |(refine⟨trivial,?_⟩;gi_at_call 22;refine(callsIn_wide.2 (checkField_h A1 A2 A3 A4 c1 c2 c3 c4 f 0 _ HE (hf.up hb0) hm hc)).mono ?_;rintro e w1 ⟨rfl,hx⟩;have kf:=kE hx kf;have kr1:=kE hx kr1;have kr2:=kE hx kr2;have hb1:Below w.heap.size w w1:=hb0.trans (hx.mono hb0.size)))
 refine⟨trivial,?_⟩
 refine(callsIn_wide.2 (lines_a _ _)).mono ?_
 rintro e w' ⟨rfl,rfl⟩
 gi_wp2_with fail
 have hnz:w.heap.size+3<=w1.heap.size:=by have:=(lO kr2);omega
 obtain⟨W0,hW0⟩: ∃W0,(w1.alloc (.cells #[.slice none 0 0] 38)).alloc (.cells #[.string src] 9)=W0:=⟨_,rfl⟩
 obtain⟨N,hN⟩: ∃N,w1.heap.size=N:=⟨_,rfl⟩
 have hs0:W0.heap.size=N+2:=by rw[<-hW0,<-hN];simp
 have hx0:Below w1.heap.size w1 W0:=by rw[<-hW0];exact((Below.refl _ w1).alloc (Nat.le_refl _) _).alloc (by simp) _
 have kd:W0.heap[N]?=some (.cells #[.slice none 0 0] 38 (0,0)):=by
  rw[<-hW0,<-hN];exact(Below.heap_alloc _ _ _ (by simp)).trans (World.alloc_heap_new w1 _)
 have ks:W0.heap[N+1]?=some (.cells #[.string src] 9 (0,0)):=by
  rw[<-hW0,<-hN];have:=World.alloc_heap_new (w1.alloc (.cells #[.slice none 0 0] 38)) (.cells #[.string src] 9);rwa[World.size_alloc]at this
 have kf:=kE hx0 kf
 have kr1:=kE hx0 kr1
 have kr2:=kE hx0 kr2
 have hb2:Below w.heap.size w W0:=hb1.trans (hx0.mono hb1.size)
 rw[hW0]
 simp only[hN]
 rw[hN]at hnz
 clear hx0 hW0 hb1 hb0
 have h8:=hEv.size
 refine wpIn_rangeFunc_sx (F:=Fence.wide) (encs:=encL) rfl (by omega) (gf:=144) (lb:= #[.pointer (some ⟨N+1,0,none⟩)]) (by simp[go_sem]) trivial (enters_of Tryz.func144 (by kernel_rfl) rfl) (fun _=>rfl)
  (nextD f) ⟨[],false,none⟩ (fun s=>Pl.runG (Pl.stepD f) 0 [] ((Pl.splitV 10 src).map Pl.wordsB)=.inl s.ds∧s.on=true) (fun s x=>Pl.runG (Pl.stepD f) 0 [] ((Pl.splitV 10 src).map Pl.wordsB)=.inr (s.ds,x.1,x.2.2.2)) (fun s x=>s.on=true∧s.pend=some x)
  (JD A1 A2 A3 A4 c1 c2 c3 c4 f w N src) (IxD f w N) (AxD A1 A2 A3 A4 c1 c2 c3 c4 f w N src) ?put ?xput ?aput ?start ?seq ?assign ?body ?done ?stop
 case put=>
  intro s W r r' hl h
  rw[hs0]at hl ⊢
  exact h.put r' hl
 case xput=>
  intro s x W r r' hl h
  rw[hs0]
  exact h.put
 case aput=>
  intro x a' W r r' hl h
  exact h
 case start=>
  intro r
  have hb:Below W0.heap.size W0 ((W0.alloc (.deferred (some []))).alloc (.loop r)):=((Below.refl _ W0).alloc (Nat.le_refl _) _).alloc (by simp) _
  exact⟨⟨hb2.trans (hb.mono hb2.size),hnz,by simp;omega,(hb.block _ (by omega)).trans kf,(hb.block _ (by omega)).trans kr1,(hb.block _ (by omega)).trans kr2,⟨[],_,rfl,.empty ((hb.block _ (by omega)).trans kd),fun i hi=>by
   rcases hi with h|h|⟨x,hx,_⟩
   ·exact .inl h
   ·cases h
   ·cases hx⟩,(hb.block _ (by omega)).trans ks⟩,fun _=>by simp;omega,fun e=>(by cases e),fun x hx=>(by cases hx)⟩
 case seq=>
  rintro rec rec' W1 hY hI hl hk'
  rw[hs0]at hY hl hk' ⊢
  have hsz:=hI.off rfl
  have hg:Below W1.heap.size W1 (W1.alloc (.cells ((Pl.splitV 10 src).map Value.string).toArray 9)):=(Below.refl _ W1).alloc (Nat.le_refl _) _
  have hrw:=World.alloc_heap_new W1 (.cells ((Pl.splitV 10 src).map Value.string).toArray 9)
  refine(lines_in (3-1) (N+2+1) (N+1) src hs (fun(ds:List Pl.Ded) W=>DG A1 A2 A3 A4 c1 c2 c3 c4 f w N src ds W∧W.heap[N+4]?=some (.cells ((Pl.splitV 10 src).map Value.string).toArray 9 (0,0))∧W.heap[N+2+1]?=some (.loop rec)∧W.heap[N+2]?=some (.deferred (some [])))
   (Pl.stepD f) (fun ds k ws W=> ∃s x,s.ds=ds∧x.1=k∧x.2.2.2=ws∧IxD f w N s x W∧W.heap[N+2+1]?=some (.loop rec')∧W.heap[N+2]?=some (.deferred (some []))) [] W1 (hEv.up hI.di.below) hI.di.ks
   ⟨hI.di.grow hg,by rw[hsz]at hrw;exact hrw,kE hg hl,(hg.block _ (lO hk')).trans hk'⟩
   (fun _ W h=>by rw[hsz];exact h.2.1) (fun _ W h=>hEv.up h.1.below)
   (fun _ W W' h hb=>⟨h.1.grow hb,(hb.block _ (Array.getElem?_eq_some_iff.1 h.2.1).1).trans h.2.1,(hb.block _ (Array.getElem?_eq_some_iff.1 h.2.2.1).1).trans h.2.2.1,(hb.block _ (Array.getElem?_eq_some_iff.1 h.2.2.2).1).trans h.2.2.2⟩) ?_).mono ?_
  ·rintro ds k b c ws' W ⟨hi,hrow,hl,hk2⟩ hk5 hn hc hsz' hne _
   have:=hY ⟨ds,true,some (k+1,b,c,ws')⟩ (k+1,b,c,ws') W ⟨rfl,rfl⟩ ⟨hi,fun e=>(by cases e),fun _=>hrow,fun x hx=>by cases hx;exact⟨hn,hc,hsz',hne⟩⟩ hl hk2
   simp only[encL,Int.natCast_add,Int.natCast_one]at this
   refine this.mono ?_
   rintro e W' (⟨s',h,rfl,hj,hl',hk'⟩|⟨h,rfl,hx,hl',hk'⟩)
   ·unfold nextD at h
    simp only at h
    cases hd:Pl.deedLine f ds ws' with
    |ok a=>
     rw[hd]at h
     simp only[Option.some.injEq]at h
     subst h
     exact .inl ⟨a,Pl.stepD_ok hd,rfl,hj.di,hj.row rfl,hl',hk'⟩
    |error E=>rw[hd]at h;cases h
   ·obtain⟨E,hd,hX⟩:=id hx
    exact .inr ⟨Pl.stepD_no hd,rfl,_,_,rfl,rfl,rfl,hx,hl',hk'⟩
  ·rintro e W' ⟨hv,⟨ds,h,hi,hrow,hl',hk'⟩|⟨ds,k,ws',h,s,x,rfl,rfl,rfl,hx,hl',hk'⟩⟩
   ·exact⟨hv,.inl ⟨⟨ds,true,none⟩,⟨h,rfl⟩,⟨hi,fun e=>(by cases e),fun _=>hrow,fun x hx=>(by cases hx)⟩,hl',hk'⟩⟩
   ·exact⟨hv,.inr ⟨s,x,h,hx,hl',hk'⟩⟩
 case assign=>
  rintro s x W Kk r ⟨_,p3⟩ hi hl hk' hK
  clear p3
  rw[hs0]at hl hk' hK ⊢
  gi_wp2
  exact hK _ _ hi rfl hl hk'
 case body=>
  rintro s ⟨num,b,c,ws'⟩ a' W r ⟨hon,hpd⟩ hi rfl hl hk'
  rw[hs0]at hl hk' ⊢
  obtain⟨hN2,hc2,hS2,hne2⟩:=hi.pend _ hpd
  simp only at hN2 hc2 hS2 hne2
  obtain⟨l,v,hls,hD,hDx⟩:=hi.di.dd
  have hlt:=hi.di.lt
  have l4:=(Array.getElem?_eq_some_iff.1 (hi.row hon)).1
  have hfN:FldS W N A1 A2 A3 A4 f:=by
   have h:=hf.below hi.di.below
   exact⟨h.st.more (by omega),h.li.more (by omega),h.pa.more (by omega),h.va.more (by omega)⟩
  have hdl:=deedLine_a A1 A2 A3 A4 c1 c2 c3 c4 f N l v (some ⟨b,0,none⟩) c ws' W (hEv.up hi.di.below) hD (by omega) hN2 hc2 hS2 hne2 hfN hm hc hE0
  have kf:=hi.di.kf
  obtain⟨hcf,hff⟩:=blk_cells kf
  rw[hls]at hdl
  cases hr:Pl.deedLine f s.ds ws' with
  |ok ds'=>
   rw[hr]at hdl
   have HR:=Lib.hid hr
   clear hr
   gi_wp2_with fail
   refine⟨trivial,?_⟩
   refine(CallsIn.inRound _ (callsIn_wide.2 hdl)).mono ?_
   rintro e W2 ⟨hB,rfl,l',v',hl',hD',hN'⟩
   gi_wp2
   exact⟨(hB.k _ (by omega) (fun e=>by have:=hDx _ e;omega)).trans hl,(hB.k _ (by omega) (fun e=>by have:=hDx _ e;omega)).trans hk',⟨ds',true,none⟩,by simp[nextD,HR.out],hi.di.next (by omega) hDx hB hl' hD' hN',fun e=>(by cases e),fun _=>(hB.k _ (by omega) (fun e=>by have:=hDx _ e;omega)).trans (hi.row hon),fun x hx=>(by cases hx)⟩
  | error E=>
   rw[hr]at hdl
   have HR:=Lib.hid hr
   have hE1:=Pl.deedLine_err hr
   clear hr
   gi_wp2_with fail
   refine⟨trivial,?_⟩
   refine(CallsIn.inRound _ (callsIn_wide.2 hdl)).mono ?_
   rintro e W2 ⟨hB,rfl⟩
   have hne:(E !=0)=true:=by simpa using hE1
   have hsz2:=hB.b.size
   have kr1:=(hB.b.block (w.heap.size+1) (by omega)).trans hi.di.r1
   have kr2:=(hB.b.block (w.heap.size+2) (by omega)).trans hi.di.r2
   have hl2:=(hB.k _ (by omega) (fun e=>by have:=hDx _ e;omega)).trans hl
   have hk2:=(hB.k _ (by omega) (fun e=>by have:=hDx _ e;omega)).trans hk'
   obtain⟨W3,st3,kr3,hg3⟩:=st_one W2 (w.heap.size+1) _ 38 _ (.slice none 0 0) kr1 info_deds rfl
   have kr2':=(hg3.block (w.heap.size+2) (lO kr2) (by simp)).trans kr2
   obtain⟨W4,st4,kr4,hg4⟩:=st_row W3 (w.heap.size+2) _ 31 _ (i2 E (num:Int)) kr2' info_flt rfl (by simp[Value.oneCell'])
   have kr3':=(hg4.block (w.heap.size+1) (lO kr3) (by simp)).trans kr3
   clear kr1 kr2 kr2' hdl hcf hff
   gi_wp2_with fail
   have keep: ∀k,w.heap.size+3<=k->k<W2.heap.size->W4.heap[k]?=W2.heap[k]?:=fun k h2 h3=>
    (hg4.block k (by have:=hg3.size;omega) (by simp;omega)).trans (hg3.block k h3 (by simp;omega))
   have hbel:Below w.heap.size w W4:=((hi.di.below.trans (hB.b.mono (by omega))).grown hg3 (by have:=hi.di.below.size;omega) (fun k e=>by cases e;omega)).grown hg4 (by have:=hg3.size;have:=hi.di.below.size;omega) (fun k e=>by cases e;omega)
   exact⟨(keep _ (by omega) (by omega)).trans hl2,(keep _ (by omega) (by omega)).trans hk2,by simp[nextD,HR.out],E,HR.out,hbel,hlt,kr3',kr4⟩
 case done=>
  rintro s1 W ⟨hrun,hon⟩ hi hk'
  rw[hs0]at hk' ⊢
  have hP2:Hid (Pl.parseDeeds f src=(s1.ds,0,0)):=Lib.hid (by rw[hP.out,hrun])
  obtain⟨l,v,hls,hD,hDx⟩:=hi.di.dd
  obtain⟨A,c,rfl,hdS,_⟩:=hD.deds
  have hlt:=hi.di.lt
  have l4:=(Array.getElem?_eq_some_iff.1 (hi.row hon)).1
  have kr1:=hi.di.r1
  have kr2:=hi.di.r2
  have hbw:=hi.di.below
  have FA:From (N+5) A:=fun a ha=>by
   have h1:(Value.slice A l.length c).ownBlock=some a.block:=by rw[ha];rfl
   have h2:=hDx _ (.inr (.inl h1))
   have h3:=hD.row.lt _ h1
   omega
  have FC: ∀x∈l,From (N+5) x.2.1:=fun x hx a ha=>by
   have h1:blk x.2=some a.block:=by unfold blk;rw[ha];rfl
   have h2:=hDx _ (.inr (.inr ⟨x,hx,h1⟩))
   have h3:=(hD.own x hx).lt _ (by rw[slv_own];exact h1)
   omega
  obtain⟨hcb,hfb⟩:=blk_cells hD.box
  obtain⟨W3,st3,kr3,hg3⟩:=st_one W (w.heap.size+1) _ 38 _ (.slice A l.length c) kr1 info_deds rfl
  have kr2':=(hg3.block (w.heap.size+2) (lO kr2) (by simp)).trans kr2
  obtain⟨W4,st4,kr4,hg4⟩:=st_row W3 (w.heap.size+2) _ 31 _ (i2 0 0) kr2' info_flt rfl (by simp[Value.oneCell'])
  have kr3':=(hg4.block (w.heap.size+1) (lO kr3) (by simp)).trans kr3
  clear kr1 kr2 kr2' hrun
  gi_wp2_with fail
  have keep: ∀k,w.heap.size+3<=k->k<W.heap.size->W4.heap[k]?=W.heap[k]?:=fun k h2 h3=>
   (hg4.block k (by have:=hg3.size;omega) (by simp;omega)).trans (hg3.block k h3 (by simp;omega))
  have hk4:=(keep (N+2) (by omega) (by omega)).trans hk'
  have hbel:Below w.heap.size w W4:=(hbw.grown hg3 (by have:=hbw.size;omega) (fun k e=>by cases e;omega)).grown hg4 (by have:=hg3.size;have:=hbw.size;omega) (fun k e=>by cases e;omega)
  have hb4:Below w.heap.size w (W4.putObj (N+2) (.deferred none)):=hbel.grown (grownBy_putObj' W4 (N+2) (.deferred none)) hbel.size (fun k e=>by cases e;omega)
  have g1:=(World.putObj_heap_other (w:=W4) (o:=.deferred none) (show w.heap.size+1≠N+2 by omega)).trans kr3'
  have g2:=(World.putObj_heap_other (w:=W4) (o:=.deferred none) (show w.heap.size+2≠N+2 by omega)).trans kr4
  obtain⟨hd1,he1⟩:=blk_cells g1
  obtain⟨hd2,he2⟩:=blk_cells g2
  refine⟨by simp,.inl ⟨_,_,rfl,run_takeDeferred hk4,?_⟩⟩
  have hz:W.heap.size<=(W4.putObj (N+2) (.deferred none)).heap.size:=by
   have:(W4.putObj (N+2) (.deferred none)).heap.size=W4.heap.size:=by simp[World.putObj]
   have:=hg3.size;have:=hg4.size;omega
  have hkk: ∀b,N+5<=b->b<W.heap.size->(W4.putObj (N+2) (.deferred none)).heap[b]?=W.heap[b]?:=fun b h1 h2=>(World.putObj_heap_other (by omega)).trans (keep b (by omega) h2)
  have hfin:DedS (W4.putObj (N+2) (.deferred none)) (W4.putObj (N+2) (.deferred none)).heap.size A l:=
   ⟨(hdS.row.keepF FA hkk).more hz,fun x hx=>((hdS.own x hx).keepF (FC x hx) hkk).more hz⟩
  refine⟨.tuple #[.slice A l.length c,.agg (i2 0 0)],?_,l,A,c,by rw[hP2.out];exact hls,by rw[hP2.out],hfin,hb4⟩
  simp[results,Tryz.results24,go_sem,hd1,hd2]
 case stop=>
  rintro s x W hst ⟨E,hd,hX⟩ hk'
  rw[hs0]at hk' ⊢
  have hP2:Hid (Pl.parseDeeds f src=([],E,(x.1:Int))):=Lib.hid (by rw[hP.out,hst];simp[hd])
  have hr1:=hX.r1
  have hr2:=hX.r2
  have hlt:=hX.lt
  obtain⟨hc1,hf1⟩:=blk_cells hr1
  obtain⟨hc2,hf2⟩:=blk_cells hr2
  clear hst
  gi_wp2
  refine⟨by simp,.inl ⟨_,_,rfl,run_takeDeferred hk',?_⟩⟩
  have hb4:Below w.heap.size w (W.putObj (N+2) (.deferred none)):=hX.below.grown (grownBy_putObj' W (N+2) (.deferred none)) hX.below.size (fun k e=>by cases e;omega)
  have g1:=(World.putObj_heap_other (w:=W) (o:=.deferred none) (show w.heap.size+1≠N+2 by omega)).trans hr1
  have g2:=(World.putObj_heap_other (w:=W) (o:=.deferred none) (show w.heap.size+2≠N+2 by omega)).trans hr2
  obtain⟨hd1,he1⟩:=blk_cells g1
  obtain⟨hd2,he2⟩:=blk_cells g2
  refine⟨.tuple #[.slice none 0 0,.agg (i2 E (x.1:Int))],?_,[],none,0,by rw[hP2.out];rfl,by rw[hP2.out];rfl,⟨.inl rfl,fun x hx=>by cases hx⟩,hb4⟩
  simp[results,Tryz.results24,go_sem,hd1,hd2]
end Go.Proofs.YtgbpekeoegfjpaaGreatDoor
set_option maxRecDepth 100000
namespace Go.Proofs.YtgbpekeoegfjpaaGreatDoor
open Go.RowKit
theorem Dds.ld {w:World}{B:Nat}{A:Option Addr}{l:List (Pl.Ded×Option Addr×Nat)}(h:Dds w B A l){k:Nat}(hk:k<l.length):
  ∃b off,A=some ⟨b,off,none⟩∧b<B∧ ∀W,Below B w W->(loadVar 90 ⟨b,off+k*4,none⟩).run Tryz.prog W=.ok (.agg #[.string l[k].1.name,.int .i64 l[k].1.year,.int .i64 l[k].1.rank,.slice l[k].2.1 l[k].1.calls.length l[k].2.2]) W:=by
 obtain⟨b,off,hA,hb,hc⟩:=Seg.at_ h hk
 exact⟨b,off,hA,hb,fun W hW=>run_loadVar_mid W b (off+k*4) _ (encDd l[k]) _ (fun j v hv=>(hW.cell (p:=⟨b,off+k*4+j,none⟩) hb).trans (hc j v hv)) Tryz.underlying90 rfl (by kernel_rfl)⟩
theorem Cals.ld {w:World}{B:Nat}{A:Option Addr}{l:List Pl.Cal}(h:Cals w B A l){k:Nat}(hk:k<l.length):
  ∃b off,A=some ⟨b,off,none⟩∧b<B∧ ∀W,Below B w W->(loadVar 48 ⟨b,off+k*13,none⟩).run Tryz.prog W=.ok (.agg #[.int .u8 (l[k].kind:Int),.int .i64 l[k].lim,.int .i64 l[k].oth,.int .i64 l[k].fr,.int .i64 l[k].till,.int .i64 l[k].size,.int .i64 l[k].er,.int .i64 l[k].crs.b,.int .i64 l[k].crs.n,.int .i64 l[k].crs.l,.int .i64 l[k].crs.y,.int .i64 l[k].crs.x,.int .i64 l[k].crs.s]) W:=by
 obtain⟨b,off,hA,hb,hc⟩:=Seg.at_ h hk
 exact⟨b,off,hA,hb,fun W hW=>run_loadVar_mid W b (off+k*13) _ (encCl l[k]) _ (fun j v hv=>(hW.cell (p:=⟨b,off+k*13+j,none⟩) hb).trans (hc j v hv)) Tryz.underlying48 rfl (by kernel_rfl)⟩
theorem eq_same (c:Pl.Cal)(W:World):(Op.equalIn 10000 48 (.agg (kq c)) (.agg (kq c))).run Tryz.prog W=.ok true W:=by
 simp[go_sem]
attribute [-go_sem] loadVar run_equalIn_agg
attribute [local go_sem] lv_int lv_bool lv_u8 lv_string lv_deds lv_calls
set_option maxHeartbeats 8000000 in
theorem sameDeeds_a (A A':Option Addr)(c c':Nat)(l l':List (Pl.Ded×Option Addr×Nat))(w:World)(he:l.map (·.1)=l'.map (·.1))(hD:DedS w w.heap.size A l)(hD':DedS w w.heap.size A' l')(hm:l.length<=100000)(hcs: ∀x∈l,x.1.calls.length<=100000):
  Calls Tryz.prog 25 #[.slice A l.length c,.slice A' l'.length c'] w fun e w'=>e=.returned (.bool true)∧Below w.heap.size w w':=by
 have hln:l'.length=l.length:=by simpa using (congrArg List.length he).symm
 have heq: ∀k (h:k<l.length) (h':k<l'.length),l'[k].1=l[k].1:=fun k h h'=>by
  have h1:(l.map (·.1))[k]?=(l'.map (·.1))[k]?:=by rw[he]
  simpa [h,h']using h1.symm
 rw[hln]
 go_enter Tryz.func25,Tryz.ntmps25
 go_wp2
 go_loopw [5] (fun i wr=> ∃(k:Nat),k<=l.length∧i=.int .i64 k∧Below w.heap.size w wr) (fun i _=>l.length-(intOf i).toNat)
 case atStart=>exact⟨0,by omega,rfl,by go_grown⟩
 case round=>
  obtain⟨k,hk,rfl,hall⟩:=hrel
  have hsz:=hall.size
  by_cases hlt:k<l.length
  ·obtain⟨b,off,hA,hbB,q0⟩:=Dds.ld hD.row hlt
   obtain⟨b',off',hA',hbB',r0⟩:=Dds.ld hD'.row (show k<l'.length by omega)
   have hx:=heq k hlt (by omega)
   have ho:=hD.own l[k] (List.getElem_mem hlt)
   have ho':=hD'.own l'[k] (List.getElem_mem (by omega))
   have hc1:=hcs l[k] (List.getElem_mem hlt)
   rw[hx]at r0 ho'
   obtain⟨⟨⟨n,y,r,cs⟩,P,p2⟩,hbd⟩: ∃x,l[k]=x:=⟨_,rfl⟩
   obtain⟨⟨Q,p3⟩,hbd'⟩: ∃x,l'[k].2=x:=⟨_,rfl⟩
   rw[hbd]at q0 r0 ho ho' hc1
   rw[hbd']at r0 ho'
   simp only at q0 r0 ho ho' hc1
   clear hbd hbd' hx
   subst hA hA'
   have e1:(0:Int)<=(k:Int):=by omega
   have e2:(k:Int)<(l.length:Int):=by omega
   have k1:=heap_alloc2_old wr (.cells #[.string n,.int .i64 y,.int .i64 r,.slice P cs.length p2] 90) (.cells #[.string n,.int .i64 y,.int .i64 r,.slice Q cs.length p3] 90)
   have k2:=heap_alloc2_new wr (.cells #[.string n,.int .i64 y,.int .i64 r,.slice P cs.length p2] 90) (.cells #[.string n,.int .i64 y,.int .i64 r,.slice Q cs.length p3] 90)
   obtain⟨hc1',hf1⟩:=blk_cells k1
   obtain⟨hc2',hf2⟩:=blk_cells k2
   have q1:=q0 wr hall
   have r1:=r0 (wr.alloc (.cells #[.string n,.int .i64 y,.int .i64 r,.slice P cs.length p2] 90)) (hall.alloc hsz _)
   have hall2:Below w.heap.size w ((wr.alloc (.cells #[.string n,.int .i64 y,.int .i64 r,.slice P cs.length p2] 90)).alloc (.cells #[.string n,.int .i64 y,.int .i64 r,.slice Q cs.length p3] 90)):=(hall.alloc hsz _).alloc (by simp;omega) _
   clear q0 r0
   go_wp2
   clear q1 r1 hc1' hf1 hc2' hf2
   generalize (wr.alloc (.cells #[.string n,.int .i64 y,.int .i64 r,.slice P cs.length p2] 90)).alloc (.cells #[.string n,.int .i64 y,.int .i64 r,.slice Q cs.length p3] 90)=W2 at*
   obtain⟨bx,hbx⟩: ∃n,wr.heap.size=n:=⟨_,rfl⟩
   simp only[hbx]at k1 k2 ⊢
   have hl2:=(lO k2)
   go_loopw [8] (fun i wr'=> ∃(j:Nat),j<=cs.length∧i=.int .i64 j∧Below W2.heap.size W2 wr') (fun i _=>cs.length-(intOf i).toNat)
   case atStart=>exact⟨0,by omega,rfl,Below.refl _ _⟩
   case round=>
    obtain⟨j,hj,rfl,hall3⟩:=hrel
    have k1:=(hall3.block _ (by omega)).trans k1
    have k2:=(hall3.block _ hl2).trans k2
    obtain⟨hc1',hf1⟩:=blk_cells k1
    obtain⟨hc2',hf2⟩:=blk_cells k2
    have hz2:=hall2.size
    have hbw:=hall2.trans (hall3.mono hz2)
    by_cases hlj:j<cs.length
    ·obtain⟨g,o,hP,hg,u0⟩:=Cals.ld ho hlj
     obtain⟨g',o',hQ,hg',v0⟩:=Cals.ld ho' hlj
     obtain⟨x,hbd⟩: ∃x,cs[j]=x:=⟨_,rfl⟩
     rw[hbd]at u0 v0
     clear hbd
     subst hP hQ
     have e3:(0:Int)<=(j:Int):=by omega
     have e4:(j:Int)<(cs.length:Int):=by omega
     have u1:=u0 _ hbw.drew
     have v1:=v0 _ hbw.drew
     have heqc:=fun W=>eq_same x W
     have hbd2:=hbw.drew
     clear u0 v0
     go_wp2
     go_region_held3 (fun W=>W.cell? ⟨bx,3,none⟩=some (.slice (some ⟨g,o,none⟩) cs.length p2)∧W.cell? ⟨bx+1,3,none⟩=some (.slice (some ⟨g',o',none⟩) cs.length p3)∧(loadVar 48 ⟨g,o+j*13,none⟩).run Tryz.prog W=.ok (.agg (kq x)) W∧(loadVar 48 ⟨g',o'+j*13,none⟩).run Tryz.prog W=.ok (.agg (kq x)) W) (exact⟨hc1' 3,hc2' 3,u1,v1⟩) (fail)
     all_goals go_wp2
     all_goals (
      go_roundw
      case rel=>exact⟨j+1,by omega,by go_num,by first|(go_grown;done)|exact below_drewN hall3 _⟩
      case measure=>first|(simp[intOf];done)|(simp[intOf];omega))
    ·go_wp2
     go_roundw
     case rel=>exact⟨k+1,by omega,by go_num,hbw⟩
     case measure=>first|(simp[intOf];done)|(simp[intOf];omega)
  ·go_wp2
   go_ret
   exact⟨rfl,hall⟩
end Go.Proofs.YtgbpekeoegfjpaaGreatDoor
set_option maxRecDepth 100000
namespace Go.Proofs.YtgbpekeoegfjpaaGreatDoor
open Go.RowKit Go.Shelf
variable (A1 A2 A3 A4 : Option Addr) (c1 c2 c3 c4 : Nat) (f : Pl.Fld)
attribute [-go_sem] storeVar
set_option maxHeartbeats 4000000 in
theorem parseDeeds_bad (src:ByteArray)(w:World)(hf:FldS w w.heap.size A1 A2 A3 A4 f)(hm:Small f)(hc:Caps c1 c2 c3 c4 f)(hE:Pl.fieldE f≠0):Calls Tryz.prog 24 #[.agg (fq A1 A2 A3 A4 c1 c2 c3 c4 f),.string src] w (EndDs (Pl.parseDeeds f src) w):=by
 have HR:Hid (Pl.parseDeeds f src=([],Pl.fieldE f,0)):=Lib.hid (by unfold Pl.parseDeeds;rw[if_pos hE])
 obtain⟨E,he⟩: ∃E,Pl.fieldE f=E:=⟨_,rfl⟩
 rw[he]at hE HR
 have HE:=Lib.hid he
 have hne:(E !=0)=true:=by simpa using hE
 clear he hE
 have kf:=heap_alloc2_old w (.cells (fq A1 A2 A3 A4 c1 c2 c3 c4 f) 28) (.cells #[.slice none 0 0] 38)
 have kr1:=heap_alloc2_new w (.cells (fq A1 A2 A3 A4 c1 c2 c3 c4 f) 28) (.cells #[.slice none 0 0] 38)
 have kr2:=heap_alloc_new ((w.alloc (.cells (fq A1 A2 A3 A4 c1 c2 c3 c4 f) 28)).alloc (.cells #[.slice none 0 0] 38)) (.cells (i2 0 0) 31)
 simp only[World.size_alloc]at kr2
 have kf:=(Below.heap_alloc _ (.cells (i2 0 0) 31) _ (lO kf)).trans kf
 have kr1:=(Below.heap_alloc _ (.cells (i2 0 0) 31) _ (lO kr1)).trans kr1
 have hb0:Below w.heap.size w (((w.alloc (.cells (fq A1 A2 A3 A4 c1 c2 c3 c4 f) 28)).alloc (.cells #[.slice none 0 0] 38)).alloc (.cells (i2 0 0) 31)):=(((Below.refl _ w).alloc (Nat.le_refl _) _).alloc (by simp) _).alloc (by simp only[World.size_alloc];omega) _
 go_enter Tryz.func24,Tryz.ntmps24
 go_wp2_with (go_at_call 22;refine(checkField_h A1 A2 A3 A4 c1 c2 c3 c4 f E _ HE (hf.up hb0) hm hc).mono ?_;rintro e w1 ⟨rfl,hx⟩;have kr1:=kE hx kr1;have kr2:=kE hx kr2;have hb1:Below w.heap.size w w1:=hb0.trans (hx.mono hb0.size);clear hx;obtain⟨W3,st3,kr3,hg3⟩:=st_one w1 (w.heap.size+1) _ 38 _ (.slice none 0 0) kr1 info_deds rfl;have kr2':=(hg3.block (w.heap.size+1+1) (lO kr2) (by simp)).trans kr2;obtain⟨W4,st4,kr4,hg4⟩:=st_row W3 (w.heap.size+1+1) _ 31 _ (i2 E 0) kr2' info_flt rfl (by simp[Value.oneCell']);have kr3':=(hg4.block (w.heap.size+1) (lO kr3) (by simp)).trans kr3;clear kr1 kr2 kr2')
 have hb4:Below w.heap.size w W4:=(hb1.grown hg3 hb1.size (fun k e=>by cases e;omega)).grown hg4 (by have:=hg3.size;have:=hb1.size;omega) (fun k e=>by cases e;omega)
 obtain⟨hd1,he1⟩:=blk_cells kr3'
 obtain⟨hd2,he2⟩:=blk_cells kr4
 refine bodyPost_ret (v:=.tuple #[.slice none 0 0,.agg (i2 E 0)]) (by simp[results,Tryz.results24,go_sem,hd1,hd2]) rfl ⟨[],none,0,by rw[HR.out];rfl,by rw[HR.out];rfl,⟨.inl rfl,fun x hx=>(by cases hx)⟩,hb4⟩
theorem parseDeeds_h (src:ByteArray)(w:World)(hEv:Env w)(hf:FldS w w.heap.size A1 A2 A3 A4 f)(hm:Small f)(hc:Caps c1 c2 c3 c4 f)(hs:src.size<=20000):Calls Tryz.prog 24 #[.agg (fq A1 A2 A3 A4 c1 c2 c3 c4 f),.string src] w (EndDs (Pl.parseDeeds f src) w):=by
 by_cases hE:Pl.fieldE f=0
 ·exact parseDeeds_a A1 A2 A3 A4 c1 c2 c3 c4 f src w hEv hf hm hc hs hE
 ·exact parseDeeds_bad A1 A2 A3 A4 c1 c2 c3 c4 f src w hf hm hc hE
namespace Pl
variable (A1 A2 A3 A4 : Option Addr) (c1 c2 c3 c4 : Nat) (f : Pl.Fld)
def fewD (l:List Ded):Prop:=l.length<=60∧ ∀d∈l,d.calls.length<=20
theorem deedLine_few {f:Fld} {ds a:List Ded} {ws:List ByteArray} (h:fewD ds) (hl:deedLine f ds ws=.ok a):fewD a:=by
 unfold deedLine at hl
 split at hl
 ·split at hl
  ·split at hl
   ·split at hl
    ·cases hl
    ·split at hl
     ·cases hl
     ·split at hl
      ·cases hl
      ·rename_i h60 _ _
       cases hl
       refine⟨by rw[List.length_append,List.length_singleton];omega,fun d hd=> ?_⟩
       rcases List.mem_append.1 hd with hd|hd
       ·exact h.2 d hd
       ·have:=List.mem_singleton.1 hd
        subst this
        simp
   ·cases hl
  ·cases hl
 ·split at hl
  ·cases hl
  ·split at hl
   ·cases hl
   ·split at hl
    ·cases hl
    ·split at hl
     ·cases hl
     ·rename_i d hg h20 _ _ _
      cases hl
      have hne:ds≠ []:=fun e=>by rw[e]at hg;cases hg
      refine⟨by have:=List.length_pos_iff.2 hne;have:=h.1;simp;omega,fun x hx=> ?_⟩
      rcases List.mem_append.1 hx with hx|hx
      ·exact h.2 x (List.dropLast_subset _ hx)
      ·have:=List.mem_singleton.1 hx
       subst this
       rw[List.length_append,List.length_singleton]
       omega
theorem deedsGo_few (f:Fld): ∀(L:List (List ByteArray)) (ds:List Ded) (n:Nat),fewD ds->fewD (deedsGo f ds n L).1
 | [],ds,n,h=>by unfold deedsGo;exact h
 | ws::L,ds,n,h=>by
  unfold deedsGo
  split
  ·exact deedsGo_few f L ds (n+1) h
  ·split
   ·rename_i a ha
    exact deedsGo_few f L a (n+1) (deedLine_few h ha)
   ·exact⟨by simp,fun d hd=>(by cases hd)⟩
theorem parseDeeds_few (f:Fld)(s:ByteArray):fewD (parseDeeds f s).1:=by
 unfold parseDeeds
 split
 ·exact⟨by simp,fun d hd=>(by cases hd)⟩
 ·split
  ·exact⟨by simp,fun d hd=>(by cases hd)⟩
  ·exact deedsGo_few f _ [] 0 ⟨by simp,fun d hd=>(by cases hd)⟩
theorem parseField_lens {s:ByteArray}(h:s.size<=20000):(parseField s).1.st.length<=100000∧(parseField s).1.li.length<=100000∧(parseField s).1.pa.length<=100000∧(parseField s).1.va.length<=100000:=by
 unfold parseField
 rw[if_neg (by omega),linesB_split,fieldGo_run]
 cases hr:fieldRun Fld.none 0 ((splitV 10 s).map wordsB)with
 |ok g=>
  have hlen:((splitV 10 s).map wordsB).length<=90000:=by have:=splitV_le 10 s;simp;omega
  obtain⟨_,hle⟩:=run_small _ _ _ _ _ none_nm none_le hr
  have hle:=hle.more (show 0+((splitV 10 s).map wordsB).length<=100000 by omega)
  simp only
  split
  ·exact⟨hle.1,hle.2.1,hle.2.2.1,hle.2.2.2⟩
  ·exact⟨by simp[Fld.none],by simp[Fld.none],by simp[Fld.none],by simp[Fld.none]⟩
 |error x=>
  simp only
  exact⟨by simp[Fld.none],by simp[Fld.none],by simp[Fld.none],by simp[Fld.none]⟩
end Pl
end Go.Proofs.YtgbpekeoegfjpaaGreatDoor
set_option maxRecDepth 100000
namespace Go.Proofs.YtgbpekeoegfjpaaGreatDoor
open Go.RowKit
set_option maxHeartbeats 8000000 in
theorem sameField_a (A1 A2 A3 A4:Option Addr) (c1 c2 c3 c4:Nat) (f:Pl.Fld) (B1 B2 B3 B4:Option Addr) (d1 d2 d3 d4:Nat) (w:World) (hf:FldS w w.heap.size A1 A2 A3 A4 f) (hm:f.st.length<=100000∧f.li.length<=100000∧f.pa.length<=100000∧f.va.length<=100000) (hg:FldS w w.heap.size B1 B2 B3 B4 f):
  Calls Tryz.prog 21 #[.agg (fq A1 A2 A3 A4 c1 c2 c3 c4 f),.agg (fq B1 B2 B3 B4 d1 d2 d3 d4 f)] w fun e w'=>e=.returned (.bool true)∧Below w.heap.size w w':=by
 obtain⟨m1,m2,m3,m4⟩:=hm
 have ka:=heap_alloc2_old w (.cells (fq A1 A2 A3 A4 c1 c2 c3 c4 f) 28) (.cells (fq B1 B2 B3 B4 d1 d2 d3 d4 f) 28)
 have kb:=heap_alloc2_new w (.cells (fq A1 A2 A3 A4 c1 c2 c3 c4 f) 28) (.cells (fq B1 B2 B3 B4 d1 d2 d3 d4 f) 28)
 have hw0:Below w.heap.size w ((w.alloc (.cells (fq A1 A2 A3 A4 c1 c2 c3 c4 f) 28)).alloc (.cells (fq B1 B2 B3 B4 d1 d2 d3 d4 f) 28)):=((Below.refl _ w).alloc (Nat.le_refl _) _).alloc (by simp) _
 obtain⟨hca,hfa⟩:=blk_cells ka
 obtain⟨hcb,hfb⟩:=blk_cells kb
 go_enter Tryz.func21,Tryz.ntmps21
 go_wp2
 generalize (w.alloc (.cells (fq A1 A2 A3 A4 c1 c2 c3 c4 f) 28)).alloc (.cells (fq B1 B2 B3 B4 d1 d2 d3 d4 f) 28)=W0 at*
 have hal:w.heap.size+1<W0.heap.size:=(lO kb)
 clear hca hfa hcb hfb
 have ka0:=ka
 have kb0:=kb
 clear ka kb
 go_loopw [5] (fun i wr=> ∃(k:Nat),k<=f.st.length∧i=.int .i64 k∧Below W0.heap.size W0 wr) (fun i _=>f.st.length-(intOf i).toNat)
 case atStart=>exact⟨0,by omega,rfl,by go_grown⟩
 case round=>
  obtain⟨k,hk,rfl,hall⟩:=hrel
  have ka:=(hall.block _ (by omega)).trans ka0
  have kb:=(hall.block _ (by omega)).trans kb0
  obtain⟨hca,hfa⟩:=blk_cells ka
  obtain⟨hcb,hfb⟩:=blk_cells kb
  have hsz:=hall.size
  have hwr:Below w.heap.size w wr:=hw0.trans (hall.mono (by omega))
  by_cases hlt:k<f.st.length
  ·obtain⟨b,off,hA,hbB,q0,q1⟩:=Stas.at2 (hf.st.below hwr) hlt
   obtain⟨b',off',hA',hbB',r0,r1⟩:=Stas.at2 (hg.st.below hwr) hlt
   obtain⟨⟨n,x⟩,hbd⟩: ∃x,f.st[k]=x:=⟨_,rfl⟩
   rw[hbd]at q0 q1 r0 r1
   simp only at q0 q1 r0 r1
   clear hbd
   subst hA hA'
   have e1:(0:Int)<=(k:Int):=by omega
   have e2:(k:Int)<(f.st.length:Int):=by omega
   go_wp2
   go_region_held3 (fun W=>W.cell? ⟨w.heap.size,0,none⟩=some (.slice (some ⟨b,off,none⟩) f.st.length c1)∧W.cell? ⟨w.heap.size+1,0,none⟩=some (.slice (some ⟨b',off',none⟩) f.st.length d1)∧W.cell? ⟨b,off+k*2,none⟩=some (.string n)∧W.cell? ⟨b,off+k*2+1,none⟩=some (.int .i64 x)∧W.cell? ⟨b',off'+k*2,none⟩=some (.string n)∧W.cell? ⟨b',off'+k*2+1,none⟩=some (.int .i64 x)) (exact⟨hca 0,hcb 0,q0,q1,r0,r1⟩) (fail)
   all_goals go_wp2
   all_goals (
    go_roundw
    case rel=>exact⟨k+1,by omega,by go_num,by first|(go_grown;done)|exact below_drewN hall _⟩
    case measure=>first|(simp[intOf];done)|(simp[intOf];omega))
  ·go_wp2
   go_loopw [6] (fun i wr=> ∃(k:Nat),k<=f.li.length∧i=.int .i64 k∧Below W0.heap.size W0 wr) (fun i _=>f.li.length-(intOf i).toNat)
   case atStart=>exact⟨0,by omega,rfl,hall⟩
   case round=>
    clear hall hca hfa hcb hfb ka kb;obtain⟨k,hk,rfl,hall⟩:=hrel
    have ka:=(hall.block _ (by omega)).trans ka0
    have kb:=(hall.block _ (by omega)).trans kb0
    obtain⟨hca,hfa⟩:=blk_cells ka
    obtain⟨hcb,hfb⟩:=blk_cells kb
    have hsz:=hall.size
    have hwr:Below w.heap.size w wr:=hw0.trans (hall.mono (by omega))
    by_cases hlt:k<f.li.length
    ·obtain⟨b,off,hA,hbB,q0⟩:=Nms.at1 (hf.li.below hwr) hlt
     obtain⟨b',off',hA',hbB',r0⟩:=Nms.at1 (hg.li.below hwr) hlt
     obtain⟨n,hbd⟩: ∃x,f.li[k]=x:=⟨_,rfl⟩
     rw[hbd]at q0 r0
     skip
     clear hbd
     subst hA hA'
     have e1:(0:Int)<=(k:Int):=by omega
     have e2:(k:Int)<(f.li.length:Int):=by omega
     go_wp2
     go_region_held3 (fun W=>W.cell? ⟨w.heap.size,1,none⟩=some (.slice (some ⟨b,off,none⟩) f.li.length c2)∧W.cell? ⟨w.heap.size+1,1,none⟩=some (.slice (some ⟨b',off',none⟩) f.li.length d2)∧W.cell? ⟨b,off+k,none⟩=some (.string n)∧W.cell? ⟨b',off'+k,none⟩=some (.string n)) (exact⟨hca 1,hcb 1,q0,r0⟩) (fail)
     all_goals go_wp2
     all_goals (
      go_roundw
      case rel=>exact⟨k+1,by omega,by go_num,by first|(go_grown;done)|exact below_drewN hall _⟩
      case measure=>first|(simp[intOf];done)|(simp[intOf];omega))
    ·go_wp2
     go_loopw [7] (fun i wr=> ∃(k:Nat),k<=f.pa.length∧i=.int .i64 k∧Below W0.heap.size W0 wr) (fun i _=>f.pa.length-(intOf i).toNat)
     case atStart=>exact⟨0,by omega,rfl,hall⟩
     case round=>
      clear hall hca hfa hcb hfb ka kb;obtain⟨k,hk,rfl,hall⟩:=hrel
      have ka:=(hall.block _ (by omega)).trans ka0
      have kb:=(hall.block _ (by omega)).trans kb0
      obtain⟨hca,hfa⟩:=blk_cells ka
      obtain⟨hcb,hfb⟩:=blk_cells kb
      have hsz:=hall.size
      have hwr:Below w.heap.size w wr:=hw0.trans (hall.mono (by omega))
      by_cases hlt:k<f.pa.length
      ·obtain⟨b,off,hA,hbB,q0,q1,q2,q3⟩:=Pars.at4 (hf.pa.below hwr) hlt
       obtain⟨b',off',hA',hbB',r0,r1,r2,r3⟩:=Pars.at4 (hg.pa.below hwr) hlt
       obtain⟨⟨n,x,y,z⟩,hbd⟩: ∃x,f.pa[k]=x:=⟨_,rfl⟩
       rw[hbd]at q0 q1 q2 q3 r0 r1 r2 r3
       simp only at q0 q1 q2 q3 r0 r1 r2 r3
       clear hbd
       subst hA hA'
       have e1:(0:Int)<=(k:Int):=by omega
       have e2:(k:Int)<(f.pa.length:Int):=by omega
       go_wp2
       go_region_held3 (fun W=>W.cell? ⟨w.heap.size,2,none⟩=some (.slice (some ⟨b,off,none⟩) f.pa.length c3)∧W.cell? ⟨w.heap.size+1,2,none⟩=some (.slice (some ⟨b',off',none⟩) f.pa.length d3)∧W.cell? ⟨b,off+k*4,none⟩=some (.string n)∧W.cell? ⟨b,off+k*4+1,none⟩=some (.int .i64 x)∧W.cell? ⟨b,off+k*4+2,none⟩=some (.int .i64 y)∧W.cell? ⟨b,off+k*4+3,none⟩=some (.int .i64 z)∧W.cell? ⟨b',off'+k*4,none⟩=some (.string n)∧W.cell? ⟨b',off'+k*4+1,none⟩=some (.int .i64 x)∧W.cell? ⟨b',off'+k*4+2,none⟩=some (.int .i64 y)∧W.cell? ⟨b',off'+k*4+3,none⟩=some (.int .i64 z)) (exact⟨hca 2,hcb 2,q0,q1,q2,q3,r0,r1,r2,r3⟩) (fail)
       all_goals go_wp2
       all_goals (
        go_roundw
        case rel=>exact⟨k+1,by omega,by go_num,by first|(go_grown;done)|exact below_drewN hall _⟩
        case measure=>first|(simp[intOf];done)|(simp[intOf];omega))
      ·go_wp2
       go_loopw [8] (fun i wr=> ∃(k:Nat),k<=f.va.length∧i=.int .i64 k∧Below W0.heap.size W0 wr) (fun i _=>f.va.length-(intOf i).toNat)
       case atStart=>exact⟨0,by omega,rfl,hall⟩
       case round=>
        clear hall hca hfa hcb hfb ka kb;obtain⟨k,hk,rfl,hall⟩:=hrel
        have ka:=(hall.block _ (by omega)).trans ka0
        have kb:=(hall.block _ (by omega)).trans kb0
        obtain⟨hca,hfa⟩:=blk_cells ka
        obtain⟨hcb,hfb⟩:=blk_cells kb
        have hsz:=hall.size
        have hwr:Below w.heap.size w wr:=hw0.trans (hall.mono (by omega))
        by_cases hlt:k<f.va.length
        ·obtain⟨b,off,hA,hbB,q0,q1⟩:=Vars.at2 (hf.va.below hwr) hlt
         obtain⟨b',off',hA',hbB',r0,r1⟩:=Vars.at2 (hg.va.below hwr) hlt
         obtain⟨⟨x,y⟩,hbd⟩: ∃x,f.va[k]=x:=⟨_,rfl⟩
         rw[hbd]at q0 q1 r0 r1
         simp only at q0 q1 r0 r1
         clear hbd
         subst hA hA'
         have e1:(0:Int)<=(k:Int):=by omega
         have e2:(k:Int)<(f.va.length:Int):=by omega
         go_wp2
         go_region_held3 (fun W=>W.cell? ⟨w.heap.size,3,none⟩=some (.slice (some ⟨b,off,none⟩) f.va.length c4)∧W.cell? ⟨w.heap.size+1,3,none⟩=some (.slice (some ⟨b',off',none⟩) f.va.length d4)∧W.cell? ⟨b,off+k*2,none⟩=some (.int .i64 x)∧W.cell? ⟨b,off+k*2+1,none⟩=some (.int .i64 y)∧W.cell? ⟨b',off'+k*2,none⟩=some (.int .i64 x)∧W.cell? ⟨b',off'+k*2+1,none⟩=some (.int .i64 y)) (exact⟨hca 3,hcb 3,q0,q1,r0,r1⟩) (fail)
         all_goals go_wp2
         all_goals (
          go_roundw
          case rel=>exact⟨k+1,by omega,by go_num,by first|(go_grown;done)|exact below_drewN hall _⟩
          case measure=>first|(simp[intOf];done)|(simp[intOf];omega))
        ·go_wp2
         go_ret
         exact⟨rfl,hwr⟩
end Go.Proofs.YtgbpekeoegfjpaaGreatDoor
set_option maxRecDepth 100000
namespace Go.Proofs.YtgbpekeoegfjpaaGreatDoor
open Go.RowKit Go.Shelf
namespace Pl
def pieceT (com:List UInt8)(at_ line:Int)(b:UInt8):List UInt8:=(if b=10∧line=at_ then 32::35::32::(com++[10,32,32])else [])++(b::(if b=32 then [32]else []))
def lineT (line:Int):List UInt8->Int
 | []=>line
 |b::l=>lineT (if b=10 then line+1 else line) l
theorem lineT_snoc (b:UInt8): ∀(l:List UInt8) (line:Int),lineT line (l++[b])=if b=10 then lineT line l+1 else lineT line l
 | [],line=>rfl
 |c::l,line=>by
  rw[List.cons_append]
  unfold lineT
  exact lineT_snoc b l _
theorem blankT_snoc (com:List UInt8)(at_:Int)(b:UInt8): ∀(l:List UInt8) (line:Int),blankT com at_ line (l++[b])=blankT com at_ line l++pieceT com at_ (lineT line l) b
 | [],line=>by by_cases h:b=10∧line=at_<;>by_cases h2:b=32<;>simp[blankT,pieceT,lineT,h,h2]
 |c::l,line=>by
  rw[List.cons_append]
  unfold blankT lineT
  rw[blankT_snoc com at_ b l]
  simp
theorem take_snoc {L:List UInt8}{k:Nat}(h:k<L.length):L.take (k+1)=L.take k++[L[k]]:=by rw[List.take_add_one,List.getElem?_eq_getElem h];rfl
theorem lineT_bd : ∀(l:List UInt8) (line:Int),line<=lineT line l∧lineT line l<=line+l.length
 | [],line=>by simp[lineT]
 |c::l,line=>by
  unfold lineT
  rw[List.length_cons]
  by_cases hc:c=10
  ·rw[if_pos hc];have:=lineT_bd l (line+1);omega
  ·rw[if_neg hc];have:=lineT_bd l line;omega
theorem blankT_all (com:List UInt8)(at_:Int)(l:List UInt8)(line:Int):(blankT com at_ line l).length<=2*l.length+(com.length+6):=by
 have:=blankT_len com at_ l line
 split at this<;>omega
end Pl
theorem addX (P:List UInt8)(s:ByteArray)(h:P.length<=1000000000000)(h2:s.size<=1000000)(W:World):(Op.stringOp .add ⟨P.toArray⟩ s).run Tryz.prog W=.ok (.string ⟨(P++s.data.toList).toArray⟩) W:=by
 have hz:(⟨P.toArray⟩:ByteArray).size=P.length:=by show P.toArray.size=_;simp
 rw[run_string_add_sum W ⟨P.toArray⟩ s (by omega)]
 obtain⟨d⟩:=s
 rw[ba_append]
 simp
theorem ba_ex (s:ByteArray)(k:Nat)(h:k<s.size):(s.extract k (k+1)).data.toList=[s[k]]:=by
 rw[ByteArray.data_extract,Array.toList_extract,List.extract_eq_take_drop,Nat.add_sub_cancel_left,List.take_one,List.head?_drop]
 have h':k<s.data.toList.length:=by simpa using h
 rw[List.getElem?_eq_getElem h']
 rfl
attribute [-go_sem] storeVar loadVar
attribute [local go_sem] lv_int lv_bool lv_u8 lv_string lv_errno
theorem bx_ff (a b c d:Value)(E n:Int)(w:World)(ha:a.oneCell'=true)(hb:b.oneCell'=true)(hc:c.oneCell'=true)(hd:d.oneCell'=true):
  ∃W2 W3,(storeVar 28 ⟨w.heap.size,0,none⟩ (.agg #[a,b,c,d])).run Tryz.prog ((w.alloc (.cells #[.slice none 0 0,.slice none 0 0,.slice none 0 0,.slice none 0 0] 28)).alloc (.cells (i2 0 0) 31))=.ok () W2∧
   (storeVar 31 ⟨w.heap.size+1,0,none⟩ (.agg (i2 E n))).run Tryz.prog W2=.ok () W3∧
   W3.heap[w.heap.size]?=some (.cells #[a,b,c,d] 28 (0,0))∧W3.heap[w.heap.size+1]?=some (.cells (i2 E n) 31 (0,0))∧Below w.heap.size w W3:=by
 have ko:=heap_alloc2_old w (.cells #[.slice none 0 0,.slice none 0 0,.slice none 0 0,.slice none 0 0] 28) (.cells (i2 0 0) 31)
 have kn:=heap_alloc2_new w (.cells #[.slice none 0 0,.slice none 0 0,.slice none 0 0,.slice none 0 0] 28) (.cells (i2 0 0) 31)
 have hB:Below w.heap.size w ((w.alloc (.cells #[.slice none 0 0,.slice none 0 0,.slice none 0 0,.slice none 0 0] 28)).alloc (.cells (i2 0 0) 31)):=((Below.refl _ w).alloc (Nat.le_refl _) _).alloc (by simp) _
 obtain⟨W2,st2,k2,hg2⟩:=st_row _ w.heap.size _ 28 _ #[a,b,c,d] ko info_fld rfl (by simp[ha,hb,hc,hd])
 have kn2:=(hg2.block (w.heap.size+1) (lO kn) (by simp)).trans kn
 obtain⟨W3,st3,k3,hg3⟩:=st_row _ (w.heap.size+1) _ 31 _ (i2 E n) kn2 info_flt rfl (by simp[Value.oneCell'])
 have k2':=(hg3.block w.heap.size (lO k2) (by simp)).trans k2
 exact⟨W2,W3,st2,st3,k2',k3,(hB.grown hg2 hB.size (fun k e=>by cases e;omega)).grown hg3 (by have:=hg2.size;have:=hB.size;omega) (fun k e=>by cases e;omega)⟩
theorem mkB_self (s:ByteArray):Pl.mkB s.data.toList=s:=by unfold Pl.mkB;simp
theorem DedS.up {w w':World}{A:Option Addr}{l:List (Pl.Ded×Option Addr×Nat)}(h:DedS w w.heap.size A l)(hb:Below w.heap.size w w'):DedS w' w'.heap.size A l:=
 ⟨h.row.up hb,fun x hx=>(h.own x hx).up hb⟩
set_option maxHeartbeats 8000000 in
theorem blanks_rest (A1 A2 A3 A4:Option Addr) (c1 c2 c3 c4:Nat) (f:Pl.Fld) (src com:ByteArray) (at_:Int) (w:World) (hE:Env w) (hf:FldS w w.heap.size A1 A2 A3 A4 f) (hm:Small f) (hc:Caps c1 c2 c3 c4 f) (hv:Hid (Pl.vast f=false)) (hL:src.size<=8000) (hC:com.size<=100) (h10:(10:UInt8)∉com.data.toList):
  Calls Tryz.prog 4 #[.agg (fq A1 A2 A3 A4 c1 c2 c3 c4 f),.string src,.string com,.int .i64 at_] w fun e w'=>e=.returned (.bool true)∧Below w.heap.size w w':=by
 have kf:=heap_alloc_new w (.cells (fq A1 A2 A3 A4 c1 c2 c3 c4 f) 28)
 have hall:Below w.heap.size w (w.alloc (.cells (fq A1 A2 A3 A4 c1 c2 c3 c4 f) 28)):=(Below.refl _ w).alloc (Nat.le_refl _) _
 have l01:=ld_row kf Tryz.underlying28 rfl info_fld
 have n1: ¬(8000:Int)<(src.size:Int):=by omega
 have n2: ¬(100:Int)<(com.size:Int):=by omega
 have hlen:src.data.toList.length=src.size:=by simp
 go_enter Tryz.func4,Tryz.ntmps4
 go_wp2_with (go_at_call 23;refine(vast_a A1 A2 A3 A4 c1 c2 c3 c4 f _ (hf.up hall) false hv).mono ?_;rintro e w1 ⟨rfl,hx⟩;have kf:=kE hx kf;have hall:Below w.heap.size w w1:=hall.trans (hx.mono hall.size);clear hx)
 go_loop [9] (fun i=> ∃(k:Nat),k<=com.size∧i=.int .i64 k) (fun i=>com.size-(intOf i).toNat)
 case atStart=>exact⟨0,by omega,rfl⟩
 case round=>
  obtain⟨k,hk,rfl⟩:=hrel
  by_cases hlt:k<com.size
  ·have hu:com[k].toNat<=255:=by have:=com[k].toNat_lt;omega
   have hb:((com[k].toNat:Int)==10)=false:=by
    have hne:com[k]≠10:=fun e=>h10 (by rw[<-e];exact List.getElem_mem (show k<com.data.toList.length by simpa using hlt))
    have:com[k].toNat≠10:=fun e=>hne (UInt8.toNat_inj.1 e)
    simp;omega
   go_wp2
   go_round
   case rel=>exact⟨k+1,by omega,by go_num⟩
   case measure=>first|(simp[intOf];done)|(simp[intOf];omega)
  ·go_wp2
   go_loop [10,11,12] (fun t ln i=> ∃(k:Nat),k<=src.size∧i=.int .i64 k∧t=.string ⟨(Pl.blankT com.data.toList at_ 0 (src.data.toList.take k)).toArray⟩∧ln=.int .i64 (Pl.lineT 0 (src.data.toList.take k))) (fun _ _ i=>src.size-(intOf i).toNat)
   case atStart=>exact⟨0,by omega,rfl,rfl,rfl⟩
   case round=>
    obtain⟨k,hk,rfl,rfl,rfl⟩:=hrel
    by_cases hlt:k<src.size
    ·have hu:src[k].toNat<=255:=by have:=src[k].toNat_lt;omega
     have hpl:=Pl.blankT_all com.data.toList at_ (src.data.toList.take k) 0
     have hct:com.data.toList.length=com.size:=by simp
     have htk:(src.data.toList.take k).length<=8000:=by rw[List.length_take];omega
     have hN1:=Pl.lineT_bd (src.data.toList.take k) 0
     have HN:Hid (Pl.blankT com.data.toList at_ 0 (src.data.toList.take (k+1))=Pl.blankT com.data.toList at_ 0 (src.data.toList.take k)++Pl.pieceT com.data.toList at_ (Pl.lineT 0 (src.data.toList.take k)) src[k]):=Lib.hid (by rw[Pl.take_snoc (show k<src.data.toList.length by omega),Pl.blankT_snoc];rfl)
     have HL:Hid (Pl.lineT 0 (src.data.toList.take (k+1))=if src[k]=10 then Pl.lineT 0 (src.data.toList.take k)+1 else Pl.lineT 0 (src.data.toList.take k)):=Lib.hid (by rw[Pl.take_snoc (show k<src.data.toList.length by omega),Pl.lineT_snoc];rfl)
     obtain⟨P,hP⟩: ∃P,Pl.blankT com.data.toList at_ 0 (src.data.toList.take k)=P:=⟨_,rfl⟩
     obtain⟨N,hN⟩: ∃N,Pl.lineT 0 (src.data.toList.take k)=N:=⟨_,rfl⟩
     rw[hP,hN]at HN
     rw[hN]at HL hN1
     rw[hP]at hpl
     simp only[hP,hN]
     have hPl:P.length<=20000:=by omega
     have hN0:0<=N∧N<=8000:=by omega
     clear hP hN hpl hct htk hN1
     have ew:IntKind.i64.wrap (N+1)=N+1:=IntWalk.i64_in _ (by omega)
     have e1:(0:Int)<=(k:Int):=by omega
     have e2:(k:Int)<=(src.size:Int):=by omega
     have e3:(k:Int)+1<=(src.size:Int):=by omega
     have hex:=ba_ex src k hlt
     have hsx:(src.extract k (k+1)).size<=1000000:=by rw[ByteArray.size_extract];omega
     have c10:(src[k]=10)↔src[k].toNat=10:=⟨fun e=>by rw[e];rfl,fun e=>UInt8.toNat_inj.1 e⟩
     have c32:(src[k]=32)↔src[k].toNat=32:=⟨fun e=>by rw[e];rfl,fun e=>UInt8.toNat_inj.1 e⟩
     by_cases h1:src[k].toNat=10
     ·have b1:((src[k].toNat:Int)==10)=true:=by simp;omega
      have b2:((src[k].toNat:Int)==32)=false:=by simp;omega
      by_cases h2:N=at_
      ·have b3:(N==at_)=true:=by simpa using h2
       have t1:=fun W=>addX P ⟨#[32,35,32]⟩ (by omega) (by decide) W
       rw[show(⟨#[32,35,32]⟩:ByteArray).data.toList=[32,35,32] from rfl]at t1
       obtain⟨Q1,hQ1⟩: ∃X,P++[32,35,32]=X:=⟨_,rfl⟩
       have g1:Q1.length<=20003:=by rw[<-hQ1];simp;omega
       rw[hQ1]at t1
       have t2:=fun W=>addX Q1 com (by omega) (by omega) W
       obtain⟨Q2,hQ2⟩: ∃X,Q1++com.data.toList=X:=⟨_,rfl⟩
       have g2:Q2.length<=20103:=by rw[<-hQ2];simp;omega
       rw[hQ2]at t2
       have t3:=fun W=>addX Q2 ⟨#[10,32,32]⟩ (by omega) (by decide) W
       rw[show(⟨#[10,32,32]⟩:ByteArray).data.toList=[10,32,32] from rfl]at t3
       obtain⟨Q3,hQ3⟩: ∃X,Q2++[10,32,32]=X:=⟨_,rfl⟩
       have g3:Q3.length<=20106:=by rw[<-hQ3];simp;omega
       rw[hQ3]at t3
       have t4:=fun W=>addX Q3 (src.extract k (k+1)) (by omega) hsx W
       rw[hex]at t4
       have HN2:Hid (Q3++[src[k]]=Pl.blankT com.data.toList at_ 0 (src.data.toList.take (k+1))):=Lib.hid (by
        rw[HN.out];unfold Pl.pieceT
        rw[if_pos ⟨c10.2 h1,h2⟩,if_neg (fun h=>by rw[c32]at h;omega),<-hQ3,<-hQ2,<-hQ1];simp)
       rw[HN2.out]at t4
       have HL2:Hid (Pl.lineT 0 (src.data.toList.take (k+1))=N+1):=Lib.hid (by rw[HL.out,if_pos (c10.2 h1)])
       clear h1 h2 c10 c32 HN HL hex hQ1 hQ2 hQ3
       go_wp2
       go_round
       case rel=>exact⟨k+1,by omega,by go_num,rfl,by rw[HL2.out]⟩
       case measure=>first|(simp[intOf];done)|(simp[intOf];omega)
      ·have b3:(N==at_)=false:=by simpa using h2
       have t1:=fun W=>addX P (src.extract k (k+1)) (by omega) hsx W
       rw[hex]at t1
       have HN2:Hid (P++[src[k]]=Pl.blankT com.data.toList at_ 0 (src.data.toList.take (k+1))):=Lib.hid (by
        rw[HN.out];unfold Pl.pieceT
        rw[if_neg (fun h=>h2 h.2),if_neg (fun h=>by rw[c32]at h;omega)];simp)
       rw[HN2.out]at t1
       have HL2:Hid (Pl.lineT 0 (src.data.toList.take (k+1))=N+1):=Lib.hid (by rw[HL.out,if_pos (c10.2 h1)])
       clear h1 h2 c10 c32 HN HL hex
       go_wp2
       go_round
       case rel=>exact⟨k+1,by omega,by go_num,rfl,by rw[HL2.out]⟩
       case measure=>first|(simp[intOf];done)|(simp[intOf];omega)
     ·have b1:((src[k].toNat:Int)==10)=false:=by simp;omega
      by_cases h2:src[k].toNat=32
      ·have b2:((src[k].toNat:Int)==32)=true:=by simp;omega
       have t1:=fun W=>addX P (src.extract k (k+1)) (by omega) hsx W
       rw[hex]at t1
       obtain⟨Q1,hQ1⟩: ∃X,P++[src[k]]=X:=⟨_,rfl⟩
       have g1:Q1.length<=20003:=by rw[<-hQ1];simp;omega
       rw[hQ1]at t1
       have t2:=fun W=>addX Q1 ⟨#[32]⟩ (by omega) (by decide) W
       rw[show(⟨#[32]⟩:ByteArray).data.toList=[32] from rfl]at t2
       have HN2:Hid (Q1++[32]=Pl.blankT com.data.toList at_ 0 (src.data.toList.take (k+1))):=Lib.hid (by
        rw[HN.out];unfold Pl.pieceT
        rw[if_neg (fun h=>by have:=c10.1 h.1;omega),if_pos (c32.2 h2),<-hQ1];simp)
       rw[HN2.out]at t2
       have HL2:Hid (Pl.lineT 0 (src.data.toList.take (k+1))=N):=Lib.hid (by rw[HL.out,if_neg (fun h=>h1 (c10.1 h))])
       clear h1 h2 c10 c32 HN HL hex hQ1
       go_wp2
       go_round
       case rel=>exact⟨k+1,by omega,by go_num,rfl,by rw[HL2.out]⟩
       case measure=>first|(simp[intOf];done)|(simp[intOf];omega)
      ·have b2:((src[k].toNat:Int)==32)=false:=by simp;omega
       have t1:=fun W=>addX P (src.extract k (k+1)) (by omega) hsx W
       rw[hex]at t1
       have HN2:Hid (P++[src[k]]=Pl.blankT com.data.toList at_ 0 (src.data.toList.take (k+1))):=Lib.hid (by
        rw[HN.out];unfold Pl.pieceT
        rw[if_neg (fun h=>h1 (c10.1 h.1)),if_neg (fun h=>h2 (c32.1 h))];simp)
       rw[HN2.out]at t1
       have HL2:Hid (Pl.lineT 0 (src.data.toList.take (k+1))=N):=Lib.hid (by rw[HL.out,if_neg (fun h=>h1 (c10.1 h))])
       clear h1 h2 c10 c32 HN HL hex
       go_wp2
       go_round
       case rel=>exact⟨k+1,by omega,by go_num,rfl,by rw[HL2.out]⟩
       case measure=>first|(simp[intOf];done)|(simp[intOf];omega)
    ·obtain rfl:k=src.size:=by omega
     rw[List.take_of_length_le (by omega)]
     have hbf:=Pl.blank_field (com:=com.data.toList) (src:=src.data.toList) h10 (by omega) (by simpa using hC) at_
     have hbd:=fun f=>Pl.blank_deeds (f:=f) (com:=com.data.toList) (src:=src.data.toList) h10 (by omega) (by simpa using hC) at_
     have hTs:=Pl.blankT_all com.data.toList at_ src.data.toList 0
     rw[mkB_self]at hbf
     simp only[mkB_self]at hbd
     have hct:com.data.toList.length=com.size:=by simp
     obtain⟨T,hT⟩: ∃T,Pl.mkB (Pl.blankT com.data.toList at_ 0 src.data.toList)=T:=⟨_,rfl⟩
     have hTz:T.size<=20000:=by rw[<-hT];show(Pl.blankT com.data.toList at_ 0 src.data.toList).toArray.size<=20000;rw[List.size_toArray];omega
     rw[hT]at hbf
     simp only[hT]at hbd
     rw[show(⟨(Pl.blankT com.data.toList at_ 0 src.data.toList).toArray⟩:ByteArray)=T from hT]
     have hlens:=Pl.parseField_lens (s:=src) (by omega)
     have hfew:=Pl.parseDeeds_few f src
     have p1:=fun W hE=>parseField_a src W hE (by omega)
     have p2:=fun W hE=>parseField_a T W hE (by omega)
     have d1:=fun W hE hf=>parseDeeds_h A1 A2 A3 A4 c1 c2 c3 c4 f src W hE hf hm hc (by omega)
     have d2:=fun W hE hf=>parseDeeds_h A1 A2 A3 A4 c1 c2 c3 c4 f T W hE hf hm hc (by omega)
     obtain⟨b1,b2⟩:=hbf
     obtain⟨b3,b4⟩:=hbd f
     generalize Pl.parseField T=R2 at*
     generalize Pl.parseField src=R1 at*
     generalize Pl.parseDeeds f T=S2 at*
     generalize Pl.parseDeeds f src=S1 at*
     obtain⟨g,E1,m1⟩:=R1
     obtain⟨g',E1',m2⟩:=R2
     obtain⟨ds,E2,m3⟩:=S1
     obtain⟨ds',E2',m4⟩:=S2
     simp only at b1 b2 b3 b4 hlens hfew
     subst b1 b2 b3 b4
     clear hTs hTz hT hbd hct n1 n2 hL hC h10 hlt hk hlen
     go_wp2_with fail
     refine(p1 _ (hE.up hall)).mono ?_
     rintro e w2 ⟨B1,x1,B2,x2,B3,x3,B4,x4,rfl,hg1,hq1,hx⟩
     simp only at hg1 hq1
     have kf:=kE hx kf
     have hall:=hall.trans (hx.mono hall.size)
     clear hx
     obtain⟨Wa,Wb,sa,sb,ka,kb,hx⟩:=bx_ff (.slice B1 g'.st.length x1) (.slice B2 g'.li.length x2) (.slice B3 g'.pa.length x3) (.slice B4 g'.va.length x4) E1' m1 w2 rfl rfl rfl rfl
     have kf:=kE hx kf
     have hall:=hall.trans (hx.mono hall.size)
     have hg1:=hg1.up hx
     obtain⟨na,hna⟩: ∃n,w2.heap.size=n:=⟨_,rfl⟩
     rw[hna]at sa sb ka kb hx
     go_wp2_with fail
     refine(p2 _ (hE.up hall)).mono ?_
     rintro e w3 ⟨C1,y1,C2,y2,C3,y3,C4,y4,rfl,hg2,hq2,hx⟩
     simp only at hg2 hq2
     have kf:=kE hx kf
     have ka:=kE hx ka
     have kb:=kE hx kb
     have hall:=hall.trans (hx.mono hall.size)
     have hg1:=hg1.up hx
     clear hx sa sb
     obtain⟨Wc,Wd,sc,sd,kc,kd,hx⟩:=bx_ff (.slice C1 g'.st.length y1) (.slice C2 g'.li.length y2) (.slice C3 g'.pa.length y3) (.slice C4 g'.va.length y4) E1' m2 w3 rfl rfl rfl rfl
     have kf:=kE hx kf
     have ka:=kE hx ka
     have kb:=kE hx kb
     have hall:=hall.trans (hx.mono hall.size)
     have hg1:=hg1.up hx
     have hg2:=hg2.up hx
     obtain⟨nb,hnb⟩: ∃n,w3.heap.size=n:=⟨_,rfl⟩
     rw[hnb]at sc sd kc kd hx
     have l01:=ld_row kf Tryz.underlying28 rfl info_fld
     go_wp2_with fail
     refine(d1 _ (hE.up hall) (hf.up hall)).mono ?_
     rintro e w4 ⟨la,Aa,xa,hla,rfl,hDa,hx⟩
     simp only at hla
     have kf:=kE hx kf
     have ka:=kE hx ka
     have kb:=kE hx kb
     have kc:=kE hx kc
     have kd:=kE hx kd
     have hall:=hall.trans (hx.mono hall.size)
     have hg1:=hg1.up hx
     have hg2:=hg2.up hx
     clear hx sc sd l01
     obtain⟨We,se,ke,hx⟩:=sp_3 E2' m3 w4
     have kf:=kE hx kf
     have ka:=kE hx ka
     have kb:=kE hx kb
     have kc:=kE hx kc
     have kd:=kE hx kd
     have hall:=hall.trans (hx.mono hall.size)
     have hg1:=hg1.up hx
     have hg2:=hg2.up hx
     have hDa:=hDa.up hx
     obtain⟨nc,hnc⟩: ∃n,w4.heap.size=n:=⟨_,rfl⟩
     rw[hnc]at se ke hx
     have l01:=ld_row kf Tryz.underlying28 rfl info_fld
     go_wp2_with fail
     refine(d2 _ (hE.up hall) (hf.up hall)).mono ?_
     rintro e w5 ⟨lb,Ab,xb,hlb,rfl,hDb,hx⟩
     simp only at hlb
     have ka:=kE hx ka
     have kb:=kE hx kb
     have kc:=kE hx kc
     have kd:=kE hx kd
     have ke:=kE hx ke
     have hall:=hall.trans (hx.mono hall.size)
     have hg1:=hg1.up hx
     have hg2:=hg2.up hx
     have hDa:=hDa.up hx
     clear hx se l01 kf
     obtain⟨Wg,sg,kg,hx⟩:=sp_3 E2' m4 w5
     have ka:=kE hx ka
     have kb:=kE hx kb
     have kc:=kE hx kc
     have kd:=kE hx kd
     have ke:=kE hx ke
     have hall:=hall.trans (hx.mono hall.size)
     have hg1:=hg1.up hx
     have hg2:=hg2.up hx
     have hDa:=hDa.up hx
     have hDb:=hDb.up hx
     obtain⟨nd,hnd⟩: ∃n,w5.heap.size=n:=⟨_,rfl⟩
     rw[hnd]at sg kg hx
     go_wp2_with fail
     refine(spoken_a _ (hE.up hall)).mono ?_
     rintro e w6 ⟨rfl,hy⟩
     have ka:=kE hy ka
     have kb:=kE hy kb
     have kc:=kE hy kc
     have kd:=kE hy kd
     have ke:=kE hy ke
     have kg:=kE hy kg
     have hall:=hall.trans (hy.mono hall.size)
     have hg1:=hg1.up hy
     have hg2:=hg2.up hy
     have hDa:=hDa.up hy
     have hDb:=hDb.up hy
     clear hx hy sg
     obtain⟨hcb,hfb⟩:=blk_cells kb
     obtain⟨hcd,hfd⟩:=blk_cells kd
     obtain⟨hce,hfe⟩:=blk_cells ke
     obtain⟨hcg,hfg⟩:=blk_cells kg
     have l02:=ld_row ka Tryz.underlying28 rfl info_fld
     have l03:=ld_row kc Tryz.underlying28 rfl info_fld
     go_wp2_with fail
     refine(sameField_a B1 B2 B3 B4 x1 x2 x3 x4 g' C1 C2 C3 C4 y1 y2 y3 y4 _ hg1 hlens hg2).mono ?_
     rintro e w7 ⟨rfl,hy⟩
     have hall:=hall.trans (hy.mono hall.size)
     have hDa:=hDa.up hy
     have hDb:=hDb.up hy
     clear l02 l03 hcb hfb hcd hfd hce hfe hcg hfg
     have hla2:la.length<=100000:=by have:=hfew.1;have h2:=congrArg List.length hla;simp at h2;omega
     have hlac: ∀x∈la,x.1.calls.length<=100000:=fun x hx=>by
      have:=hfew.2 x.1 (by rw[<-hla];exact List.mem_map_of_mem hx)
      omega
     go_wp2_with fail
     refine(sameDeeds_a Aa Ab xa xb la lb _ (by rw[hla,hlb]) hDa hDb hla2 hlac).mono ?_
     rintro e w8 ⟨rfl,hz⟩
     have hall:=hall.trans (hz.mono hall.size)
     go_wp2_with fail
     go_ret
     exact⟨rfl,hall⟩
end Go.Proofs.YtgbpekeoegfjpaaGreatDoor
set_option maxRecDepth 100000
namespace Go.Proofs.YtgbpekeoegfjpaaGreatDoor
open Go.RowKit Go.Shelf
variable (A1 A2 A3 A4 : Option Addr) (c1 c2 c3 c4 : Nat) (f : Pl.Fld)
attribute [-go_sem] storeVar loadVar
attribute [local go_sem] lv_int lv_bool lv_u8 lv_string lv_errno
set_option maxHeartbeats 2000000 in
theorem blanks_vast (src com:ByteArray)(at_:Int)(w:World)(hE:Env w)(hf:FldS w w.heap.size A1 A2 A3 A4 f)(hv:Hid (Pl.vast f=true)):
    Calls Tryz.prog 4 #[.agg (fq A1 A2 A3 A4 c1 c2 c3 c4 f),.string src,.string com,.int .i64 at_] w fun e w'=>e=.returned (.bool true)∧Below w.heap.size w w':=by
  have kf:=heap_alloc_new w (.cells (fq A1 A2 A3 A4 c1 c2 c3 c4 f) 28)
  have hall:Below w.heap.size w (w.alloc (.cells (fq A1 A2 A3 A4 c1 c2 c3 c4 f) 28)):=(Below.refl _ w).alloc (Nat.le_refl _) _
  have l01:=ld_row kf Tryz.underlying28 rfl info_fld
  go_enter Tryz.func4,Tryz.ntmps4
  go_wp2_with (first|(go_at_call 23;refine(vast_a A1 A2 A3 A4 c1 c2 c3 c4 f _ (hf.up hall) true hv).mono ?_;rintro e w1 ⟨rfl,hx⟩;have hall:Below w.heap.size w w1:=hall.trans (hx.mono hall.size);clear hx)|(go_at_call 18;refine(spoken_a _ (hE.up hall)).mono ?_;rintro e w2 ⟨rfl,hy⟩;have hall2:Below w.heap.size w w2:=hall.trans (hy.mono hall.size);clear hy))
  go_ret
  exact⟨rfl,hall2⟩
set_option maxHeartbeats 2000000 in
theorem blanks_src (src com:ByteArray)(at_:Int)(w:World)(hE:Env w)(hf:FldS w w.heap.size A1 A2 A3 A4 f)(hv:Hid (Pl.vast f=false))(hL:8000<src.size)(_hm:src.size<=maxLen):
    Calls Tryz.prog 4 #[.agg (fq A1 A2 A3 A4 c1 c2 c3 c4 f),.string src,.string com,.int .i64 at_] w fun e w'=>e=.returned (.bool true)∧Below w.heap.size w w':=by
  have kf:=heap_alloc_new w (.cells (fq A1 A2 A3 A4 c1 c2 c3 c4 f) 28)
  have hall:Below w.heap.size w (w.alloc (.cells (fq A1 A2 A3 A4 c1 c2 c3 c4 f) 28)):=(Below.refl _ w).alloc (Nat.le_refl _) _
  have l01:=ld_row kf Tryz.underlying28 rfl info_fld
  have n1:(8000:Int)<(src.size:Int):=by omega
  go_enter Tryz.func4,Tryz.ntmps4
  go_wp2_with (first|(go_at_call 23;refine(vast_a A1 A2 A3 A4 c1 c2 c3 c4 f _ (hf.up hall) false hv).mono ?_;rintro e w1 ⟨rfl,hx⟩;have hall:Below w.heap.size w w1:=hall.trans (hx.mono hall.size);clear hx)|(go_at_call 18;refine(spoken_a _ (hE.up hall)).mono ?_;rintro e w2 ⟨rfl,hy⟩;have hall2:Below w.heap.size w w2:=hall.trans (hy.mono hall.size);clear hy))
  go_ret
  exact⟨rfl,hall2⟩
set_option maxHeartbeats 2000000 in
theorem blanks_com (src com:ByteArray)(at_:Int)(w:World)(hE:Env w)(hf:FldS w w.heap.size A1 A2 A3 A4 f)(hv:Hid (Pl.vast f=false))(hL:src.size<=8000)(hC:100<com.size)(_hm:com.size<=maxLen):
    Calls Tryz.prog 4 #[.agg (fq A1 A2 A3 A4 c1 c2 c3 c4 f),.string src,.string com,.int .i64 at_] w fun e w'=>e=.returned (.bool true)∧Below w.heap.size w w':=by
  have kf:=heap_alloc_new w (.cells (fq A1 A2 A3 A4 c1 c2 c3 c4 f) 28)
  have hall:Below w.heap.size w (w.alloc (.cells (fq A1 A2 A3 A4 c1 c2 c3 c4 f) 28)):=(Below.refl _ w).alloc (Nat.le_refl _) _
  have l01:=ld_row kf Tryz.underlying28 rfl info_fld
  have n1: ¬(8000:Int)<(src.size:Int):=by omega
  have n2:(100:Int)<(com.size:Int):=by omega
  go_enter Tryz.func4,Tryz.ntmps4
  go_wp2_with (first|(go_at_call 23;refine(vast_a A1 A2 A3 A4 c1 c2 c3 c4 f _ (hf.up hall) false hv).mono ?_;rintro e w1 ⟨rfl,hx⟩;have hall:Below w.heap.size w w1:=hall.trans (hx.mono hall.size);clear hx)|(go_at_call 18;refine(spoken_a _ (hE.up hall)).mono ?_;rintro e w2 ⟨rfl,hy⟩;have hall2:Below w.heap.size w w2:=hall.trans (hy.mono hall.size);clear hy))
  go_ret
  exact⟨rfl,hall2⟩
set_option maxHeartbeats 2000000 in
theorem blanks_nl (src com : ByteArray) (at_ :Int) (w:World) (hE:Env w) (hf:FldS w w.heap.size A1 A2 A3 A4 f) (hv:Hid (Pl.vast f=false)) (hL:src.size<=8000) (hC:com.size<=100) (h10:(10:UInt8)∈com.data.toList):
    Calls Tryz.prog 4 #[.agg (fq A1 A2 A3 A4 c1 c2 c3 c4 f),.string src,.string com,.int .i64 at_] w fun e w'=>e=.returned (.bool true)∧Below w.heap.size w w':=by
  have kf:=heap_alloc_new w (.cells (fq A1 A2 A3 A4 c1 c2 c3 c4 f) 28)
  have hall:Below w.heap.size w (w.alloc (.cells (fq A1 A2 A3 A4 c1 c2 c3 c4 f) 28)):=(Below.refl _ w).alloc (Nat.le_refl _) _
  have l01:=ld_row kf Tryz.underlying28 rfl info_fld
  have n1: ¬(8000:Int)<(src.size:Int):=by omega
  have n2: ¬(100:Int)<(com.size:Int):=by omega
  go_enter Tryz.func4,Tryz.ntmps4
  go_wp2_with (go_at_call 23;refine(vast_a A1 A2 A3 A4 c1 c2 c3 c4 f _ (hf.up hall) false hv).mono ?_;rintro e w1 ⟨rfl,hx⟩;have hall:Below w.heap.size w w1:=hall.trans (hx.mono hall.size);clear hx)
  go_loop [9] (fun i=> ∃(k:Nat),k<=com.size∧i=.int .i64 k∧Hid (∀j (h:j<com.size),j<k->com[j]≠10)) (fun i=>com.size-(intOf i).toNat)
  case atStart=>exact⟨0,by omega,rfl,Lib.hid fun j _ h=>by omega⟩
  case round=>
    obtain⟨k,hk,rfl,hg⟩:=hrel
    by_cases hlt:k<com.size
    · have hu:com[k].toNat<=255:=by have:=com[k].toNat_lt;omega
      by_cases hb:com[k].toNat=10
      · have b1:((com[k].toNat:Int)==10)=true:=by simp;omega
        clear hb
        go_wp2_with (go_at_call 18;refine(spoken_a _ (hE.up hall)).mono ?_;rintro e w2 ⟨rfl,hy⟩;have hall2:Below w.heap.size w w2:=hall.trans (hy.mono hall.size);clear hy)
        go_ret
        exact⟨rfl,hall2⟩
      · have b1:((com[k].toNat:Int)==10)=false:=by simp;omega
        have hn:=Lib.hid (show com[k]≠10 from fun e=>hb (by rw[e];rfl))
        clear hb
        go_wp2
        go_round
        case rel=>exact⟨k+1,by omega,by go_num,Lib.hid fun j h hj=>by
          by_cases e:j=k
          ·subst e;exact hn.out
          ·exact hg.out j h (by omega)⟩
        case measure=>first|(simp[intOf];done)|(simp[intOf];omega)
    · exfalso
      obtain⟨j,hj,he⟩:=List.mem_iff_getElem.1 h10
      exact hg.out j (by simpa using hj) (by have:j<com.size:=by simpa using hj
                                             omega) he
theorem deedBlanks_w (src com:ByteArray)(at_:Int)(w:World)(hE:Env w)(hf:FldS w w.heap.size A1 A2 A3 A4 f)(hc:Caps c1 c2 c3 c4 f)(hs1:src.size<=maxLen)(hs2:com.size<=maxLen):
    Calls Tryz.prog 4 #[.agg (fq A1 A2 A3 A4 c1 c2 c3 c4 f),.string src,.string com,.int .i64 at_] w fun e w'=>e=.returned (.bool true)∧Below w.heap.size w w':=by
  cases hv:Pl.vast f with
  |true=>exact blanks_vast A1 A2 A3 A4 c1 c2 c3 c4 f src com at_ w hE hf (Lib.hid hv)
  | false=>
    by_cases hL:8000<src.size
    ·exact blanks_src A1 A2 A3 A4 c1 c2 c3 c4 f src com at_ w hE hf (Lib.hid hv) hL hs1
    by_cases hC:100<com.size
    ·exact blanks_com A1 A2 A3 A4 c1 c2 c3 c4 f src com at_ w hE hf (Lib.hid hv) (by omega) hC hs2
    by_cases h10:(10:UInt8)∈com.data.toList
    ·exact blanks_nl A1 A2 A3 A4 c1 c2 c3 c4 f src com at_ w hE hf (Lib.hid hv) (by omega) (by omega) h10
    ·exact blanks_rest A1 A2 A3 A4 c1 c2 c3 c4 f src com at_ w hE hf (Pl.vast_small hv) hc (Lib.hid hv) (by omega) (by omega) h10
end Go.Proofs.YtgbpekeoegfjpaaGreatDoor
