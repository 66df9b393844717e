/- FA, FCa, PlT, PlU, PlI, GA, GB, GC, GDa, Pm1, Pm8, Qa, PlX, QK, QF, PlZ, Pm2, Pm3, Pm5, Pmc, Pmd, GL, GM, RA, RX, RC, RE, RD, RH, RM, RN, RO, RP, RQ, RR, RS, RT, RU in one text. -/
import Derived.Test.YtgbpekeoegfjpaaGreatDoorProg
import Derived.WalkKit
import Derived.WalkLawsBesides
import Derived.WalkSpells
import Derived.Handy
import Derived.Lib.Hide
import Derived.Great.BuildSlice
import Derived.Deep.QuietTactic
import Derived.BigQuiet
import Derived.Deep.RegionHeld3
import Derived.Deep.DeepCutAuto
import Derived.Test.YtgbpekeoegfjpaaGreatDoorZ24
import Derived.Test.YtgbpekeoegfjpaaGreatDoorZ02
import Derived.Lib.SplitLaws
import Derived.Test.YtgbpekeoegfjpaaGreatDoorZ03
import Derived.Deep.Upon
import Derived.Test.YtgbpekeoegfjpaaGreatDoorZ10
import Derived.Test.YtgbpekeoegfjpaaGreatDoorZ05
import Derived.Test.YtgbpekeoegfjpaaGreatDoorZ09
import Derived.Test.YtgbpekeoegfjpaaGreatDoorZ22
import Derived.Test.YtgbpekeoegfjpaaGreatDoorZ02
import Derived.Test.YtgbpekeoegfjpaaGreatDoorZ06
import Derived.Test.YtgbpekeoegfjpaaGreatDoorP3x
import Derived.Lib.Join
import Derived.Laws.BytesArg
import Derived.Laws.Concat
import Derived.Shelf.Strings.BuilderK
import Derived.Test.YtgbpekeoegfjpaaGreatDoorZ04
import Derived.Test.YtgbpekeoegfjpaaGreatDoorZ15
import Derived.Test.YtgbpekeoegfjpaaGreatDoorZ18
import Derived.Test.YtgbpekeoegfjpaaGreatDoorZ23
import Derived.Deep.MidRow
import Derived.Test.YtgbpekeoegfjpaaGreatDoorZ16
import Derived.Test.YtgbpekeoegfjpaaGreatDoorZ08
set_option maxRecDepth 100000
namespace Go.Proofs.YtgbpekeoegfjpaaGreatDoor
open Go.RowKit
variable (A1 A2 A3 A4 : Option Addr) (c1 c2 c3 c4 : Nat) (f : Pl.Fld)
def Pl.vast (f:Pl.Fld):Bool:=(decide (20<f.st.length)||decide (20<f.li.length)||decide (60<f.pa.length)||decide (60<f.va.length))||(f.st.any (fun s=>decide (100<s.1.size))||f.li.any (fun s=>decide (100<s.size))||f.pa.any (fun p=>decide (100<p.name.size)))
set_option maxHeartbeats 2000000 in
theorem vast_many (w:World)(h:20<f.st.length∨20<f.li.length∨60<f.pa.length∨60<f.va.length):
  Calls Tryz.prog 23 #[.agg (fq A1 A2 A3 A4 c1 c2 c3 c4 f)] w fun e w'=>e=.returned (.bool (Pl.vast f))∧Below w.heap.size w w':=by
 have hv:Hid (Pl.vast f=true):=Lib.hid (by unfold Pl.vast;simp;omega)
 by_cases h1:20<f.st.length
 ·have e1:(20:Int)<(f.st.length:Int):=by omega
  go_enter Tryz.func23,Tryz.ntmps23
  go_wp2
  go_ret
  exact⟨ret_bool hv.out.symm,by go_grown⟩
 have n1: ¬(20:Int)<(f.st.length:Int):=by omega
 by_cases h2:20<f.li.length
 ·have e1:(20:Int)<(f.li.length:Int):=by omega
  go_enter Tryz.func23,Tryz.ntmps23
  go_wp2
  go_ret
  exact⟨ret_bool hv.out.symm,by go_grown⟩
 have n2: ¬(20:Int)<(f.li.length:Int):=by omega
 by_cases h3:60<f.pa.length
 ·have e1:(60:Int)<(f.pa.length:Int):=by omega
  go_enter Tryz.func23,Tryz.ntmps23
  go_wp2
  go_ret
  exact⟨ret_bool hv.out.symm,by go_grown⟩
 have n3: ¬(60:Int)<(f.pa.length:Int):=by omega
 ·have e1:(60:Int)<(f.va.length:Int):=by omega
  go_enter Tryz.func23,Tryz.ntmps23
  go_wp2
  go_ret
  exact⟨ret_bool hv.out.symm,by go_grown⟩
set_option maxHeartbeats 4000000 in
theorem vast_few (w:World) (hf:FldS w w.heap.size A1 A2 A3 A4 f) (h1:f.st.length<=20) (h2:f.li.length<=20) (h3:f.pa.length<=60) (h4:f.va.length<=60):
  Calls Tryz.prog 23 #[.agg (fq A1 A2 A3 A4 c1 c2 c3 c4 f)] w fun e w'=>e=.returned (.bool (Pl.vast f))∧Below w.heap.size w w':=by
 have n1: ¬(20:Int)<(f.st.length:Int):=by omega
 have n2: ¬(20:Int)<(f.li.length:Int):=by omega
 have n3: ¬(60:Int)<(f.pa.length:Int):=by omega
 have n4: ¬(60:Int)<(f.va.length:Int):=by omega
 have kb:=heap_alloc_new w (.cells (fq A1 A2 A3 A4 c1 c2 c3 c4 f) 28)
 have hall:Below w.heap.size w (w.alloc (.cells (fq A1 A2 A3 A4 c1 c2 c3 c4 f) 28)):=by go_grown
 go_enter Tryz.func23,Tryz.ntmps23
 go_wp2
 go_loopw [3] (fun p wr=> ∃k:Nat,k<=f.st.length∧p=.int .i64 k∧(∀s∈f.st.take k,s.1.size<=100)∧wr.heap[w.heap.size]?=some (.cells (fq A1 A2 A3 A4 c1 c2 c3 c4 f) 28 (0,0))∧Below w.heap.size w wr) (fun p _=>f.st.length-(intOf p).toNat)
 case atStart=>exact⟨0,by omega,rfl,by simp,kb,hall⟩
 clear kb hall
 case round=>
  obtain⟨k,hk,rfl,hs,kb,hb1⟩:=hrel
  obtain⟨hckb,hfkb⟩:=blk_cells kb
  by_cases hlt:k<f.st.length
  ·obtain⟨b,off,rfl,hbB,q0,q1⟩:=Stas.at2 (hf.st.below hb1) hlt
   by_cases hz:100<f.st[k].1.size
   ·have hv:Hid (Pl.vast f=true):=Lib.hid (by unfold Pl.vast;simp only[Bool.or_eq_true,List.any_eq_true,decide_eq_true_eq];exact .inr (.inl (.inl ⟨_,List.getElem_mem hlt,hz⟩)))
    go_wp2
    go_ret
    exact⟨ret_bool hv.out.symm,hb1⟩
   ·go_wp2
    go_roundw
    case rel=>exact⟨k+1,by omega,by go_num,by intro s hs';rw[List.take_succ_eq_append_getElem hlt,List.mem_append]at hs';rcases hs' with h|h;exact hs _ h;simp at h;subst h;omega,kb,hb1⟩
    case measure=>first|(simp[intOf];done)|(simp[intOf];omega)
  ·obtain rfl:k=f.st.length:=by omega
   go_wp2
   go_loopw [4] (fun p wr=> ∃k:Nat,k<=f.li.length∧p=.int .i64 k∧(∀s∈f.li.take k,s.size<=100)∧wr.heap[w.heap.size]?=some (.cells (fq A1 A2 A3 A4 c1 c2 c3 c4 f) 28 (0,0))∧Below w.heap.size w wr) (fun p _=>f.li.length-(intOf p).toNat)
   case atStart=>exact⟨0,by omega,rfl,by simp,kb,hb1⟩
   case round=>
    clear hckb hfkb kb hb1
    obtain⟨k,hk,rfl,hs2,kb,hb1⟩:=hrel
    obtain⟨hckb,hfkb⟩:=blk_cells kb
    by_cases hlt:k<f.li.length
    ·obtain⟨b,off,rfl,hbB,q0⟩:=Nms.at1 (hf.li.below hb1) hlt
     by_cases hz:100<f.li[k].size
     ·have hv:Hid (Pl.vast f=true):=Lib.hid (by unfold Pl.vast;simp only[Bool.or_eq_true,List.any_eq_true,decide_eq_true_eq];exact .inr (.inl (.inr ⟨_,List.getElem_mem hlt,hz⟩)))
      go_wp2
      go_ret
      exact⟨ret_bool hv.out.symm,hb1⟩
     ·go_wp2
      go_roundw
      case rel=>exact⟨k+1,by omega,by go_num,by intro s hs';rw[List.take_succ_eq_append_getElem hlt,List.mem_append]at hs';rcases hs' with h|h;exact hs2 _ h;simp at h;subst h;omega,kb,hb1⟩
      case measure=>first|(simp[intOf];done)|(simp[intOf];omega)
    ·obtain rfl:k=f.li.length:=by omega
     go_wp2
     go_loopw [5] (fun p wr=> ∃k:Nat,k<=f.pa.length∧p=.int .i64 k∧(∀s∈f.pa.take k,s.name.size<=100)∧wr.heap[w.heap.size]?=some (.cells (fq A1 A2 A3 A4 c1 c2 c3 c4 f) 28 (0,0))∧Below w.heap.size w wr) (fun p _=>f.pa.length-(intOf p).toNat)
     case atStart=>exact⟨0,by omega,rfl,by simp,kb,hb1⟩
     case round=>
      clear hckb hfkb kb hb1
      obtain⟨k,hk,rfl,hs3,kb,hb1⟩:=hrel
      obtain⟨hckb,hfkb⟩:=blk_cells kb
      by_cases hlt:k<f.pa.length
      ·obtain⟨b,off,rfl,hbB,q0,q1,q2,q3⟩:=Pars.at4 (hf.pa.below hb1) hlt
       by_cases hz:100<f.pa[k].name.size
       ·have hv:Hid (Pl.vast f=true):=Lib.hid (by unfold Pl.vast;simp only[Bool.or_eq_true,List.any_eq_true,decide_eq_true_eq];exact .inr (.inr ⟨_,List.getElem_mem hlt,hz⟩))
        go_wp2
        go_ret
        exact⟨ret_bool hv.out.symm,hb1⟩
       ·go_wp2
        go_roundw
        case rel=>exact⟨k+1,by omega,by go_num,by intro s hs';rw[List.take_succ_eq_append_getElem hlt,List.mem_append]at hs';rcases hs' with h|h;exact hs3 _ h;simp at h;subst h;omega,kb,hb1⟩
        case measure=>first|(simp[intOf];done)|(simp[intOf];omega)
      ·obtain rfl:k=f.pa.length:=by omega
       rw[List.take_length]at hs hs2 hs3
       have hv:Hid (Pl.vast f=false):=Lib.hid (by
        unfold Pl.vast
        simp only[Bool.or_eq_false_iff,List.any_eq_false,decide_eq_true_eq,decide_eq_false_iff_not]
        exact⟨⟨⟨⟨by omega,by omega⟩,by omega⟩,by omega⟩,⟨fun s hs'=>by have:=hs s hs';omega,fun s hs'=>by have:=hs2 s hs';omega⟩,fun s hs'=>by have:=hs3 s hs';omega⟩)
       go_wp2
       go_ret
       exact⟨ret_bool hv.out.symm,hb1⟩
end Go.Proofs.YtgbpekeoegfjpaaGreatDoor
namespace Go.Proofs.YtgbpekeoegfjpaaGreatDoor
open Go.RowKit
attribute [-go_sem] run_equalIn_agg storeVar loadVar
attribute [local go_sem] lv_int lv_bool lv_u8 lv_string lv_strings lv_stas lv_pars lv_vars
theorem Pl.vast_few {f:Pl.Fld}(h:Pl.vast f=false):f.st.length<=20∧f.li.length<=20∧f.pa.length<=60∧f.va.length<=60∧(∀s∈f.st,s.1.size<=100)∧(∀s∈f.li,s.size<=100)∧ ∀p∈f.pa,p.name.size<=100:=by
 unfold Pl.vast at h
 simp only[Bool.or_eq_false_iff,List.any_eq_false,decide_eq_true_eq,decide_eq_false_iff_not]at h
 obtain⟨⟨⟨⟨a,b⟩,c⟩,d⟩,⟨e,g⟩,k⟩:=h
 exact⟨by omega,by omega,by omega,by omega,fun s hs=>by have:=e s hs;omega,fun s hs=>by have:=g s hs;omega,fun s hs=>by have:=k s hs;omega⟩
theorem Pl.vast_small {f:Pl.Fld}(h:Pl.vast f=false):Small f:=by
 obtain⟨a,b,c,d,e,g,k⟩:=Pl.vast_few h
 exact⟨by omega,by omega,by omega,by omega,fun s hs=>by have:=e s hs;omega,fun s hs=>by have:=g s hs;omega,fun s hs=>by have:=k s hs;omega⟩
theorem vast_a (A1 A2 A3 A4:Option Addr)(c1 c2 c3 c4:Nat)(f:Pl.Fld)(w:World)(hf:FldS w w.heap.size A1 A2 A3 A4 f)(b:Bool)(hb:Hid (Pl.vast f=b)):
  Calls Tryz.prog 23 #[.agg (fq A1 A2 A3 A4 c1 c2 c3 c4 f)] w fun e w'=>e=.returned (.bool b)∧Below w.heap.size w w':=by
 rw[<-hb.out]
 by_cases h:f.st.length<=20∧f.li.length<=20∧f.pa.length<=60∧f.va.length<=60
 ·exact vast_few A1 A2 A3 A4 c1 c2 c3 c4 f w hf h.1 h.2.1 h.2.2.1 h.2.2.2
 ·exact vast_many A1 A2 A3 A4 c1 c2 c3 c4 f w (by omega)
end Go.Proofs.YtgbpekeoegfjpaaGreatDoor
namespace Go.Proofs.YtgbpekeoegfjpaaGreatDoor.Pl
open Go.RowKit
/-! ### Words -/
def cutW (acc:List UInt8):List UInt8->List (List UInt8)
 | []=>[acc]
 |c::s=>if c=32 then acc::cutW [] s else cutW (acc++[c]) s
def pre (acc:List UInt8):List (List UInt8)->List (List UInt8)
 | []=>[]
 |x::xs=>(acc++x)::xs
theorem pre_nil (l:List (List UInt8)):pre [] l=l:=by cases l<;>rfl
theorem splitK_cons_ne (c:UInt8)(hc:c≠32)(r:List UInt8): ∀k,Lib.splitK [32] 0 k (c::r)=pre [c] (Lib.splitK [32] 0 k r)
 |0=>rfl
 | k+1=>by
  have hp:([32]:List UInt8).isPrefixOf (c::r)=false:=by simp[List.isPrefixOf,Ne.symm hc]
  have hix:Lib.index (c::r) [32]=if Lib.index r [32]== -1 then-1 else Lib.index r [32]+1:=by rw[Lib.index,hp];simp
  unfold Lib.splitK
  by_cases hm:Lib.index r [32]= -1
  ·rw[hix,if_pos (beq_iff_eq.2 hm),hm];rfl
  ·have hge:=Lib.index_ge r [32]
   have hn: ¬(Lib.index r [32]== -1)=true:=fun e=>hm (beq_iff_eq.1 e)
   rw[hix,if_neg hn,if_neg hn,if_neg (by intro e;have:=beq_iff_eq.1 e;omega)]
   obtain⟨i,hi⟩: ∃i:Nat,Lib.index r [32]=i:=⟨(Lib.index r [32]).toNat,by omega⟩
   rw[hi]
   have e:((i:Int)+1).toNat=i+1:=by omega
   rw[e]
   simp[pre]
theorem splitK_cons_eq (r:List UInt8)(k:Nat):Lib.splitK [32] 0 (k+1) (32::r)=[]::Lib.splitK [32] 0 k r:=by
 have hix:Lib.index (32::r) [32]=((0:Nat):Int):=by rw[Lib.index];simp[List.isPrefixOf]
 rw[Lib.splitK,hix]
 simp
theorem cutW_split : ∀(s acc:List UInt8),cutW acc s=pre acc (Lib.splitK [32] 0 (Lib.count s [32]) s)
 | [],acc=>by
  have:Lib.count [] [32]=0:=rfl
  rw[this];unfold cutW Lib.splitK pre;simp
 | c::s,acc=>by
  unfold cutW
  by_cases hc:c=32
  ·subst hc
   rw[if_pos rfl,Lib.count_cons_eq,Nat.add_comm,splitK_cons_eq,cutW_split s [],pre_nil]
   simp[pre]
  ·rw[if_neg hc,Lib.count_cons_ne c 32 s hc,splitK_cons_ne c hc,cutW_split s (acc++[c])]
   cases Lib.splitK [32] 0 (Lib.count s [32]) s with
   |nil=>rfl
   |cons x xs=>simp[pre]
theorem wordsV_cut (s:ByteArray):(wordsV s).map (·.data.toList)=cutW [] s.data.toList:=by
 unfold wordsV
 rw[Lib.splitB_data,cutW_split,pre_nil]
theorem cutW_plain : ∀(x acc:List UInt8),32∉x->cutW acc x=[acc++x]
 | [],acc,_=>by simp[cutW]
 |c::x,acc,h=>by
  simp only[List.mem_cons,not_or]at h
  unfold cutW
  rw[if_neg (Ne.symm h.1),cutW_plain x _ h.2];simp
theorem cutW_blank : ∀(x acc s:List UInt8),32∉x->cutW acc (x++32::s)=(acc++x)::cutW [] s
 | [],acc,s,_=>by simp[cutW]
 |c::x,acc,s,h=>by
  simp only[List.mem_cons,not_or]at h
  rw[List.cons_append,cutW,if_neg (Ne.symm h.1),cutW_blank x _ s h.2];simp
theorem join_two (x y:List UInt8)(r:List (List UInt8)):Lib.join (x::y::r) [32]=x++32::Lib.join (y::r) [32]:=by
 rw[Lib.join_cons,Lib.join_cons];simp[Lib.joinTail]
theorem cutW_join : ∀(xs:List (List UInt8)),xs≠ []->(∀x∈xs,32∉x)->cutW [] (Lib.join xs [32])=xs
 | [],h,_=>absurd rfl h
 | [x],_,h=>by rw[Lib.join_one,cutW_plain x [] (h x (by simp))];simp
 |x::y::r,_,h=>by
  rw[join_two,cutW_blank x [] _ (h x (by simp)),cutW_join (y::r) (by simp) (fun z hz=>h z (by simp[hz]))];simp
/-! ### Numbers -/
theorem numV_spelt {k:Int}(h0:0<=k)(h1:k<=1000000000000):numV (spelt k)=some k:=by
 have e:(spelt k).data.toList=Lib.decDigits k.toNat:=by unfold spelt;simp[itoa_pos h0]
 unfold numV
 rw[e,atoi_dec _ (by omega)]
 simp only[]
 rw[Int.toNat_of_nonneg h0,if_pos ⟨h0,h1,rfl⟩]
theorem spelt_plain {k:Int}(h0:0<=k):(32:UInt8)∉(spelt k).data.toList:=by
 have e:(spelt k).data.toList=Lib.decDigits k.toNat:=by unfold spelt;simp[itoa_pos h0]
 rw[e]
 intro h
 have:=(dec_digit _ _ h).1
 exact absurd this (by decide)
/-! ### Units -/
instance (us : List Unit) : Decidable (Good us) := by unfold Good; infer_instance
theorem good_poles :Good poles:=by decide+kernel
theorem word_size {us:List Unit}(hg:Good us){u:Unit}(hu:u∈us)(k:Int):sizeOf (word k u) us 0=u.1:=by
 obtain⟨_,_,h1,h2,_⟩:=hg u hu
 unfold word;split
 ·exact h1
 ·exact h2
theorem word_plain {us:List Unit}(hg:Good us){u:Unit}(hu:u∈us)(k:Int):(32:UInt8)∉(word k u).data.toList:=by
 obtain⟨_,_,_,_,h1,h2⟩:=hg u hu
 unfold word;split
 ·exact h1
 ·exact h2
theorem stepV_part {n c s:Int}(h0:0<=n)(h2:n+c<=1000000000000)(hs:1<=s):stepV n (c/s) s=some (n+c/s*s):=by
 have e1:c/s*s<=c:=Int.ediv_mul_le c (by omega)
 have e2:c/s<=1000000000000/s:=Int.ediv_le_ediv (by omega) (by omega)
 unfold stepV
 rw[if_pos ⟨by omega,e2⟩,if_pos (by omega)]
theorem addV_named {us:List Unit}(hg:Good us): ∀(vs:List Unit),(∀v∈vs,v∈us)-> ∀(c n:Int),0<=c->0<=n->n+c<=1000000000000->addV us (namedL c vs) n=some (n+c-endC c vs)
 | [],_,c,n,_,_,_=>by unfold namedL endC addV;simp
 | v::vs,hv,c,n,h0,h1,h2=>by
  have hm:=hv v (by simp)
  obtain⟨g1,g2,_⟩:=hg v hm
  have e1:c/v.1*v.1+c%v.1=c:=by rw[Int.mul_comm];exact Int.mul_ediv_add_emod c v.1
  have e2:0<=c%v.1:=Int.emod_nonneg _ (by omega)
  have e3:0<=c/v.1:=Int.ediv_nonneg h0 (by omega)
  have e4:c/v.1<=c:=Int.ediv_le_self _ h0
  have e5:0<=c/v.1*v.1:=Int.mul_nonneg e3 (by omega)
  unfold namedL endC
  by_cases hk:c/v.1>0
  ·rw[if_pos hk]
   have:=addV_named hg vs (fun w hw=>hv w (by simp[hw])) (c%v.1) (n+c/v.1*v.1) e2 (by omega) (by omega)
   show addV us (spelt (c/v.1)::word (c/v.1) v::namedL (c%v.1) vs) n=_
   rw[addV_some (numV_spelt e3 (by omega)) (word_size hg hm _) (stepV_part h1 h2 g1),this]
   congr 1;omega
  ·rw[if_neg hk,List.nil_append]
   have hz:c/v.1=0:=by omega
   rw[hz]at e1
   rw[addV_named hg vs (fun w hw=>hv w (by simp[hw])) (c%v.1) n e2 h1 (by omega)]
   congr 1;omega
theorem namedL_even (c:Int)(us:List Unit):(namedL c us).length%2=0:=by
 induction us generalizing c with
 |nil=>rfl
 |cons u us ih=>
  have:=ih (c%u.1)
  simp only[namedL]
  split<;>simp<;>omega
theorem namedL_plain {us:List Unit}(hg:Good us): ∀(vs:List Unit),(∀v∈vs,v∈us)-> ∀(c:Int),0<=c-> ∀x∈(namedL c vs).map (·.data.toList),(32:UInt8)∉x
 | [],_,c,_,x,hx=>by simp[namedL]at hx
 | v::vs,hv,c,h0,x,hx=>by
  have hm:=hv v (by simp)
  obtain⟨g1,_⟩:=hg v hm
  simp only[namedL,List.map_append,List.mem_append]at hx
  rcases hx with hx|hx
  ·split at hx
   ·rename_i hk
    simp only[List.map_cons,List.map_nil,List.mem_cons,List.not_mem_nil,or_false]at hx
    rcases hx with rfl|rfl
    ·exact spelt_plain (by omega)
    ·exact word_plain hg hm _
   ·simp at hx
  ·exact namedL_plain hg vs (fun w hw=>hv w (by simp[hw])) (c%v.1) (Int.emod_nonneg _ (by omega)) x hx
theorem ba_of_list {a b:List ByteArray}(h:a.map (·.data.toList)=b.map (·.data.toList)):a=b:=by
 have hi: ∀x y:ByteArray,x.data.toList=y.data.toList->x=y:=fun x y e=>by
  cases x;cases y;simp only[ByteArray.mk.injEq];exact Array.toList_inj.1 e
 induction a generalizing b with
 |nil=>cases b with
  |nil=>rfl
  |cons y b=>simp at h
 | cons x a ih=>cases b with
  |nil=>simp at h
  |cons y b=>
   simp only[List.map_cons,List.cons.injEq]at h
   rw[hi x y h.1,ih h.2]
theorem wordsV_named {us:List Unit}(hg:Good us){c:Int}(h0:0<=c)(hne:namedL c us≠ []):wordsV (named c us)=namedL c us:=by
 apply ba_of_list
 rw[wordsV_cut]
 have e:(named c us).data.toList=Lib.join ((namedL c us).map (·.data.toList)) [32]:=by unfold named;rw[if_neg hne]
 rw[e]
 exact cutW_join _ (by simpa using hne) (namedL_plain hg us (fun v hv=>hv) c h0)
theorem readV_named {us:List Unit}{wr:Int->ByteArray}(hg:Good us){c:Int}(h0:0<=c)(h1:c<=1000000000000)(hw:wr c=named c us)(hend:endC c us=0)(hz:namedL c us=[]->c=0∧readV us wr (named c us)=some 0):readV us wr (named c us)=some c:=by
 by_cases hne:namedL c us=[]
 ·obtain⟨hc,h⟩:=hz hne
  rw[h,hc]
 ·unfold readV
  rw[wordsV_named hg h0 hne,if_pos (namedL_even c us),addV_named hg us (fun v hv=>hv) c 0 h0 (by omega) (by omega),hend]
  simp[hw]
theorem namedL_zero {c:Int}(h:0<=c): ∀ {us:List Unit},(∀u∈us,1<=u.1)->namedL c us=[]->endC c us=c
 | [],_,_=>rfl
 | u::us,hp,hn=>by
  have g1:=hp u (by simp)
  have e1:c/u.1*u.1+c%u.1=c:=by rw[Int.mul_comm];exact Int.mul_ediv_add_emod c u.1
  have e3:0<=c/u.1:=Int.ediv_nonneg h (by omega)
  unfold namedL at hn
  unfold endC
  by_cases hk:c/u.1>0
  ·rw[if_pos hk]at hn;simp at hn
  ·have hz:c/u.1=0:=by omega
   rw[hz]at e1
   have e:c%u.1=c:=by omega
   rw[if_neg hk,List.nil_append,e]at hn
   rw[e]
   exact namedL_zero h (fun v hv=>hp v (by simp[hv])) hn
theorem end_poles (c:Int):endC c poles=0:=by unfold poles;simp only[endC];omega
theorem lengthV_in {n:Int}(h0:0<=n)(h1:n<=1000000):lengthV n=named n poles:=by unfold lengthV;rw[if_pos ⟨h0,h1⟩]
theorem links_back {n:Int}(h0:0<=n)(h1:n<=1000000):readV poles lengthV (lengthV n)=some n:=by
 rw[lengthV_in h0 h1]
 refine readV_named good_poles h0 (by omega) (lengthV_in h0 h1) (end_poles n) fun hn=> ?_
 have:=namedL_zero h0 (us:=poles) (fun u hu=>(good_poles u hu).1) hn
 rw[end_poles]at this
 obtain rfl:n=0:=this.symm
 exact⟨rfl,by decide+kernel⟩
end Go.Proofs.YtgbpekeoegfjpaaGreatDoor.Pl
namespace Go.Proofs.YtgbpekeoegfjpaaGreatDoor.Pl
open Go.RowKit
/-! ### Writing, as the reference does -/
/-! ### Directions -/
def unq (l:List UInt8):Int:=
 match cutW [] l with
 | [a]=>if a=north then 0 else if a=east then 90 else if a=south then 180 else 270
 | [a,n,b]=>if a=north then (if b=east then (numGo 0 n).getD 0 else 360-(numGo 0 n).getD 0)else (if b=east then 180-(numGo 0 n).getD 0 else 180+(numGo 0 n).getD 0)
 |_=> -1
theorem unq_quad : ∀d:Fin 360,unq (quad (d.1:Int))=d.1:=by decide+kernel
theorem quad_mod (d:Int):quad (d%360)=quad d:=by unfold quad;rw[Int.emod_emod_of_dvd _ (by decide)]
theorem quad_inj {a b:Int}(a0:0<=a)(a1:a<360)(b0:0<=b)(b1:b<360)(h:quad a=quad b):a=b:=by
 have ha:=unq_quad ⟨a.toNat,by omega⟩
 have hb:=unq_quad ⟨b.toNat,by omega⟩
 simp only[Int.toNat_of_nonneg a0,Int.toNat_of_nonneg b0]at ha hb
 rw[h,hb]at ha
 exact ha.symm
theorem bearGo_spec (l:List UInt8): ∀(f k:Nat),(∃r:Nat,bearGo l f k=some (r:Int)∧quad (r:Int)=l∧k<=r∧r<k+f)∨(bearGo l f k=none∧ ∀j:Nat,k<=j->j<k+f->quad (j:Int)≠l)
 |0,k=> .inr ⟨rfl,fun j h1 h2=>by omega⟩
 | f+1,k=>by
  unfold bearGo
  by_cases h:quad (k:Int)=l
  ·rw[if_pos h];exact .inl ⟨k,rfl,h,by omega,by omega⟩
  ·rw[if_neg h]
   rcases bearGo_spec l f (k+1)with ⟨r,h1,h2,h3,h4⟩|⟨h1,h2⟩
   ·exact .inl ⟨r,h1,h2,by omega,by omega⟩
   ·refine .inr ⟨h1,fun j j1 j2=> ?_⟩
    by_cases hj:j=k
    ·subst hj;exact h
    ·exact h2 j (by omega) (by omega)
theorem bear_back (d:Int):bearV ⟨(quad d).toArray⟩=some (d%360):=by
 have h0:0<=d%360:=by omega
 have h1:d%360<360:=by omega
 unfold bearV
 rcases bearGo_spec (quad d) 360 0 with ⟨r,k1,k2,k3,k4⟩|⟨k1,k2⟩
 ·show bearGo (quad d) 360 0=_
  rw[k1]
  have:=quad_inj (a:=r) (b:=d%360) (by omega) (by omega) h0 h1 (by rw[k2,quad_mod])
  rw[this]
 ·exact absurd (by rw[Int.toNat_of_nonneg h0,quad_mod]) (k2 (d%360).toNat (by omega) (by omega))
end Go.Proofs.YtgbpekeoegfjpaaGreatDoor.Pl
namespace Go.Proofs.YtgbpekeoegfjpaaGreatDoor.Pl
open Go.RowKit
theorem numF_iff {s:ByteArray}{v:Int}:numF s=some v↔0<=v∧v<=999999999∧spelt v=s:=by
 unfold numF
 constructor
 ·intro h
  cases e:sgnV s with
  |none=>rw[e]at h;cases h
  |some u=>
   rw[e]at h
   simp only[Option.bind_some]at h
   split at h
   ·cases h;have:=sgnV_iff.1 e;exact⟨‹_›,this.2.1,this.2.2⟩
   ·cases h
 ·rintro⟨h0,h1,h2⟩
  rw[(sgnV_iff (s:=s) (v:=v)).2 ⟨by omega,h1,h2⟩]
  simp[h0]
end Go.Proofs.YtgbpekeoegfjpaaGreatDoor.Pl
set_option maxRecDepth 100000
namespace Go.Proofs.YtgbpekeoegfjpaaGreatDoor
open Go.RowKit Go.Deep
variable (A1 A2 A3 A4 : Option Addr) (c1 c2 c3 c4 : Nat) (f : Pl.Fld)
attribute [-go_sem] Builtin.append_
theorem flat_inv {α:Type}(enc:α->List Value)(size:Nat)(hs:0<size)(hsz: ∀x,(enc x).length=size){l:List α}{j:Nat}{u:Value}(h:(l.flatMap enc)[j]?=some u): ∃k x m,l[k]?=some x∧(enc x)[m]?=some u∧j=k*size+m:=by
 have hj:j<l.length*size:=by rw[<-flat_len enc size hsz];exact(List.getElem?_eq_some_iff.1 h).1
 have hk:j/size<l.length:=by rw[Nat.div_lt_iff_lt_mul hs];exact hj
 have hm:j%size<size:=Nat.mod_lt _ hs
 have he:j=j/size*size+j%size:=by have:=Nat.div_add_mod j size;rw[Nat.mul_comm];omega
 refine⟨j/size,l[j/size],j%size,List.getElem?_eq_getElem hk,?_,he⟩
 obtain⟨v,hv⟩: ∃v,(enc l[j/size])[j%size]?=some v:=⟨_,List.getElem?_eq_getElem (show j%size<(enc l[j/size]).length by rw[hsz];exact hm)⟩
 have:=flat_at enc size hsz (List.getElem?_eq_getElem hk) hv
 rw[<-he,h]at this
 rw[hv,this]
section
variable {α : Type} {enc : α -> List Value} {ST ET : TypeId} {z : Value} {size bytes : Nat}
theorem own_app_seg (L:Lay enc ST ET z size bytes){n₀ k:Nat}{w1:World}{v:Value}{l:List α}(hr:w1.ownsRow n₀ ET size v k (l.flatMap enc))(A:Option Addr)(c:Nat)(r:List α)(hs:Seg enc size w1 w1.heap.size A r)
  (h63:k+r.length<=maxLen) (hb:(k+r.length)*bytes<=140737488355328) (hn:n₀<=w1.heap.size):
  ∃v' w2,(Builtin.append_ #[ST,ST] ST #[v,.slice A r.length c]).run Tryz.prog w1=.ok v' w2∧w2.ownsRow n₀ ET size v' (k+r.length) ((l++r).flatMap enc)∧Below n₀ w1 w2:=by
 obtain⟨i0,hi0,hz0,hz1,hz2⟩:=info_parts L.hi
 cases A with
 | none=>
  obtain rfl:r=[]:=by
   rcases hs with h|⟨b,off,h,_⟩
   ·exact h
   ·cases h
  refine⟨v,w1,?_,by simpa using hr,Below.refl _ _⟩
  have hsrc:Src Tryz.prog i0.size ST (.slice none 0 c) 0 [] w1:=Src.ofNil w1 L.ht c
  rcases hr.2 with ⟨rfl,_⟩|⟨g,cap,cur,rfl,_,_,hle,_⟩
  ·exact run_append_nothing w1 ST ST ST ET i0 L.ht hi0 none 0 0 (Nat.le_refl _) _ hsrc
  ·exact run_append_nothing w1 ST ST ST ET i0 L.ht hi0 (some ⟨g,0,none⟩) k cap hle _ hsrc
 | some a=>
  have hcell: ∀j u,(r.flatMap enc)[j]?=some u->w1.cell? (a.add j)=some u:=by
   intro j u hj
   rcases hs with h|⟨b,off,h,hlt,hc⟩
   ·subst h;simp at hj
   ·obtain⟨k',x,m,h1,h2,rfl⟩:=flat_inv enc size L.hs L.henc hj
    cases h
    rw[Go.WideShapes.add_plain,<-Nat.add_assoc]
    exact hc k' x h1 m u h2
  have hone: ∀u∈r.flatMap enc,u.oneCell'=true:=by
   intro u hu
   obtain⟨x,_,hx⟩:=List.mem_flatMap.1 hu
   exact L.hone x u hx
  obtain⟨v',w2,hrun,hown,hgrow,hn2⟩:=run_append_own (P:=Tryz.prog) (w:=w1) n₀ ST ST ET i0 _ size bytes L.ht hi0 hz0 hz1 hz2 L.hz L.hs v k (l.flatMap enc) hr a r.length c (r.flatMap enc)
   (by rw[flat_len enc size L.henc]) hcell hone h63 hb hn
  exact⟨v',w2,hrun,by rw[List.flatMap_append];exact hown,(Below.refl n₀ w1).grown hgrow hn fun j ej=>(hr.lt j ej).1⟩
end
def Pl.nms (f:Pl.Fld)(k:Nat):List ByteArray:=if k=0 then f.sn else if k=1 then f.li else f.pn
set_option maxHeartbeats 2000000 in
theorem names_b0 (w:World)(hf:FldS w w.heap.size A1 A2 A3 A4 f)(hm:Small f):
  Calls Tryz.prog 113 #[.agg (fq A1 A2 A3 A4 c1 c2 c3 c4 f),.int .i64 0] w (NewNms f.sn w):=by
 have kb:=heap_alloc_new w (.cells (fq A1 A2 A3 A4 c1 c2 c3 c4 f) 28)
 have hall:Below w.heap.size w (w.alloc (.cells (fq A1 A2 A3 A4 c1 c2 c3 c4 f) 28)):=by go_grown
 have hst:=hm.st
 go_enter Tryz.func113,Tryz.ntmps113
 go_wp2
 go_loopw [5,6] (fun o i wr=> ∃(k:Nat),k<=f.st.length∧i=.int .i64 k∧wr.ownsRow (w.heap.size+1) 9 1 o k (((f.st.take k).map Prod.fst).flatMap encNm)∧wr.heap[w.heap.size]?=some (.cells (fq A1 A2 A3 A4 c1 c2 c3 c4 f) 28 (0,0))∧Below w.heap.size w wr) (fun _ i _=>f.st.length-(intOf i).toNat)
 case atStart=>exact⟨0,by omega,rfl,World.ownsRow_nil _ _ _ _,kb,hall⟩
 case round=>
  clear kb hall
  obtain⟨k,hk,rfl,hown,kb,hall⟩:=hrel
  obtain⟨hckb,hfkb⟩:=blk_cells kb
  have hlt0:=(lO kb)
  by_cases hlt:k<f.st.length
  ·obtain⟨b,off,rfl,hbB,q0,q1⟩:=Stas.at2 (hf.st.below hall) hlt
   obtain⟨g',cap',w2,hrun,hown2,hb2⟩:=own_app lay_nm hown [f.st[k].1] 0 rfl #[.string f.st[k].1] (by simp[encNm]) (by unfold maxLen;omega) (by omega) (show w.heap.size+1<=wr.heap.size by omega)
   have kb2:=(hb2.block w.heap.size (by omega)).trans kb
   go_wp2
   go_roundw
   case rel=>exact⟨k+1,by omega,by go_num,by rw[List.take_succ_eq_append_getElem hlt,List.map_append];exact hown2,kb2,hall.trans (hb2.mono (by omega))⟩
   case measure=>first|(simp[intOf];done)|(simp[intOf];omega)
  ·obtain rfl:k=f.st.length:=by omega
   rw[List.take_length]at hown
   have hq:f.st.length=f.sn.length:=by unfold Pl.Fld.sn;simp
   rw[hq]at hown
   obtain⟨A',c',hv,hN,hc,hF⟩:=own_seg lay_nm hown
   subst hv
   go_wp2
   go_ret
   exact⟨A',c',rfl,hN,hc,fun a ha=>Nat.le_of_succ_le (hF a ha),hall⟩
set_option maxHeartbeats 2000000 in
theorem names_b1 (w:World)(hf:FldS w w.heap.size A1 A2 A3 A4 f)(hm:Small f):
  Calls Tryz.prog 113 #[.agg (fq A1 A2 A3 A4 c1 c2 c3 c4 f),.int .i64 1] w (NewNms f.li w):=by
 have kb:=heap_alloc_new w (.cells (fq A1 A2 A3 A4 c1 c2 c3 c4 f) 28)
 have hall:Below w.heap.size w (w.alloc (.cells (fq A1 A2 A3 A4 c1 c2 c3 c4 f) 28)):=by go_grown
 have hli:=hm.li
 obtain⟨W,hW⟩: ∃W,w.alloc (.cells (fq A1 A2 A3 A4 c1 c2 c3 c4 f) 28)=W:=⟨_,rfl⟩
 have hsz:W.heap.size=w.heap.size+1:=by rw[<-hW];simp
 rw[hW]at kb hall
 obtain⟨v',w2,hrun,hown,hb2⟩:=own_app_seg lay_nm (k:=0) (l:=([]:List ByteArray)) (World.ownsRow_nil W (w.heap.size+1) 9 1) A2 c2 f.li (hf.li.up hall) (by unfold maxLen;omega) (by omega) (by omega)
 simp only[List.nil_append,Nat.zero_add]at hown
 obtain⟨A',c',hv,hN,hc,hF⟩:=own_seg lay_nm hown
 subst hv
 obtain⟨hckb,hfkb⟩:=blk_cells kb
 go_enter Tryz.func113,Tryz.ntmps113
 go_wp2
 go_ret
 exact⟨A',c',rfl,hN,hc,fun a ha=>Nat.le_of_succ_le (hF a ha),hall.trans (hb2.mono (by omega))⟩
set_option maxHeartbeats 2000000 in
theorem names_b2 (w:World)(hf:FldS w w.heap.size A1 A2 A3 A4 f)(hm:Small f):
  Calls Tryz.prog 113 #[.agg (fq A1 A2 A3 A4 c1 c2 c3 c4 f),.int .i64 2] w (NewNms f.pn w):=by
 have kb:=heap_alloc_new w (.cells (fq A1 A2 A3 A4 c1 c2 c3 c4 f) 28)
 have hall:Below w.heap.size w (w.alloc (.cells (fq A1 A2 A3 A4 c1 c2 c3 c4 f) 28)):=by go_grown
 have hst:=hm.pa
 go_enter Tryz.func113,Tryz.ntmps113
 go_wp2
 go_loopw [5,7] (fun o i wr=> ∃(k:Nat),k<=f.pa.length∧i=.int .i64 k∧wr.ownsRow (w.heap.size+1) 9 1 o k (((f.pa.take k).map Pl.Par.name).flatMap encNm)∧wr.heap[w.heap.size]?=some (.cells (fq A1 A2 A3 A4 c1 c2 c3 c4 f) 28 (0,0))∧Below w.heap.size w wr) (fun _ i _=>f.pa.length-(intOf i).toNat)
 case atStart=>exact⟨0,by omega,rfl,World.ownsRow_nil _ _ _ _,kb,hall⟩
 case round=>
  clear kb hall
  obtain⟨k,hk,rfl,hown,kb,hall⟩:=hrel
  obtain⟨hckb,hfkb⟩:=blk_cells kb
  have hlt0:=(lO kb)
  by_cases hlt:k<f.pa.length
  ·obtain⟨b,off,rfl,hbB,q0,q1,q2,q3⟩:=Pars.at4 (hf.pa.below hall) hlt
   obtain⟨g',cap',w2,hrun,hown2,hb2⟩:=own_app lay_nm hown [f.pa[k].name] 0 rfl #[.string f.pa[k].name] (by simp[encNm]) (by unfold maxLen;omega) (by omega) (show w.heap.size+1<=wr.heap.size by omega)
   have kb2:=(hb2.block w.heap.size (by omega)).trans kb
   go_wp2
   go_roundw
   case rel=>exact⟨k+1,by omega,by go_num,by rw[List.take_succ_eq_append_getElem hlt,List.map_append];exact hown2,kb2,hall.trans (hb2.mono (by omega))⟩
   case measure=>first|(simp[intOf];done)|(simp[intOf];omega)
  ·obtain rfl:k=f.pa.length:=by omega
   rw[List.take_length]at hown
   have hq:f.pa.length=f.pn.length:=by unfold Pl.Fld.pn;simp
   rw[hq]at hown
   obtain⟨A',c',hv,hN,hc,hF⟩:=own_seg lay_nm hown
   subst hv
   go_wp2
   go_ret
   exact⟨A',c',rfl,hN,hc,fun a ha=>Nat.le_of_succ_le (hF a ha),hall⟩
theorem names_b (k:Nat)(hk:k<3)(w:World)(hf:FldS w w.heap.size A1 A2 A3 A4 f)(hm:Small f):
  Calls Tryz.prog 113 #[.agg (fq A1 A2 A3 A4 c1 c2 c3 c4 f),.int .i64 (k:Int)] w (NewNms (Pl.nms f k) w):=by
 match k,hk with
 |0,_=>exact names_b0 A1 A2 A3 A4 c1 c2 c3 c4 f w hf hm
 |1,_=>exact names_b1 A1 A2 A3 A4 c1 c2 c3 c4 f w hf hm
 |2,_=>exact names_b2 A1 A2 A3 A4 c1 c2 c3 c4 f w hf hm
end Go.Proofs.YtgbpekeoegfjpaaGreatDoor
set_option maxRecDepth 100000
namespace Go.Proofs.YtgbpekeoegfjpaaGreatDoor
open Go.RowKit
theorem comD_h (p q:Pl.Par)(M:Int)(w:World)(hM:Hid (max 0 (Pl.com2 p q+1)=M))(hp:Pl.parIn 12 10 p=true)(hq:Pl.parIn 12 10 q=true):
  Calls Tryz.prog 127 #[.agg #[.string p.name,.int .i64 p.south,.int .i64 p.fr,.int .i64 p.till],.agg #[.string q.name,.int .i64 q.south,.int .i64 q.fr,.int .i64 q.till]] w fun e w'=>e=.returned (.int .i64 M)∧Below w.heap.size w w':=by
 have h1:=Pl.parIn_ok hp
 have h2:=Pl.parIn_ok hq
 rw[<-hM.out]
 exact comD_b p q w (by have:=h1.f0;omega) (by have:=h1.f1;omega) (by have:=h1.t0;omega) (by have:=h1.t1;omega) (by have:=h2.f0;omega) (by have:=h2.f1;omega) (by have:=h2.t0;omega) (by have:=h2.t1;omega)
theorem any_take {α:Type}{p:α->Bool}{l:List α}{k j:Nat}(hk:k<=l.length)(hj:j<k)(h:p (l[j]'(by omega))=true):(l.take k).any p=true:=by
 rw[List.any_eq_true]
 exact⟨_,List.mem_take_iff_getElem.2 ⟨j,by omega,rfl⟩,h⟩
theorem none_take {α:Type}{p:α->Bool}{l:List α}{k:Nat}(h: ∀j (hj:j<l.length),j<k->p l[j]=false):(l.take k).any p=false:=by
 rw[List.any_eq_false]
 intro x hx
 obtain⟨j,hj,rfl⟩:=List.mem_take_iff_getElem.1 hx
 rw[h j (by omega) (by omega)]
 simp
theorem cell_keep {W w1:World}(hx:Below W.drew.heap.size W.drew w1){b o:Nat}{v:Value}(hb:b<W.heap.size)(h:W.cell? ⟨b,o,none⟩=some v):w1.cell? ⟨b,o,none⟩=some v:=(hx.cell (p:=⟨b,o,none⟩) hb).trans h
set_option maxHeartbeats 8000000 in
theorem ordered_b (A1 A2 A3 A4:Option Addr) (c1 c2 c3 c4:Nat) (f:Pl.Fld) (B:Bool) (w:World) (hf:FldS w w.heap.size A1 A2 A3 A4 f) (_hm:Small f) (_hc:Caps c1 c2 c3 c4 f) (k1:f.st.length<=12) (k3:f.pa.length<=40) (hS: ∀p∈f.pa,Pl.parIn 12 10 p=true) (hB:Hid (B=true↔f.N7)):
  Calls Tryz.prog 116 #[.agg (fq A1 A2 A3 A4 c1 c2 c3 c4 f)] w fun e w'=>e=.returned (.bool B)∧Below w.heap.size w w':=by
 have kb:=heap_alloc_new w (.cells (fq A1 A2 A3 A4 c1 c2 c3 c4 f) 28)
 have hall:Below w.heap.size w (w.alloc (.cells (fq A1 A2 A3 A4 c1 c2 c3 c4 f) 28)):=by go_grown
 have hno:Hid (¬f.N7->false=B):=Lib.hid fun h=>by cases B with|false=>rfl|true=>exact absurd (hB.out.1 rfl) h
 have hyes:Hid (f.N7->true=B):=Lib.hid fun h=>(hB.out.2 h).symm
 go_enter Tryz.func116,Tryz.ntmps116
 go_wp2
 go_loopw [3] (fun i wr=> ∃(k:Nat),1<=k∧k<=f.st.length+1∧i=.int .i64 k∧Hid (∀j (h:j+1<f.st.length),j+1<k->f.st[j].2<f.st[j+1].2)∧wr.heap[w.heap.size]?=some (.cells (fq A1 A2 A3 A4 c1 c2 c3 c4 f) 28 (0,0))∧Below w.heap.size w wr) (fun i _=>f.st.length+1-(intOf i).toNat)
 case atStart=>exact⟨1,by omega,by omega,rfl,Lib.hid fun j _ h=>by omega,kb,hall⟩
 case round=>
  clear kb hall
  obtain⟨k,hk1,hk,rfl,hg,kb,hall⟩:=hrel
  obtain⟨hckb,hfkb⟩:=blk_cells kb
  have hltkb:=(lO kb)
  have hsz:=hall.size
  by_cases hlt:k<f.st.length
  ·obtain⟨m,hmk⟩: ∃m,k=m+1:=⟨k-1,by omega⟩
   have hltm:m<f.st.length:=by omega
   obtain⟨b,off,hA,hbB,q0,q1⟩:=Stas.at2 (hf.st.below hall) hlt
   obtain⟨b',off',hA',_,r0,r1⟩:=Stas.at2 (hf.st.below hall) hltm
   rw[hA]at hA'
   obtain⟨rfl,rfl⟩:b=b'∧off=off':=by simpa using hA'
   clear hA' q0 r0
   subst hA
   have hc0:wr.cell? ⟨w.heap.size,0,none⟩=some (.slice (some ⟨b,off,none⟩) f.st.length c1):=hckb 0
   have e1:IntKind.i64.wrap ((k:Int)-1)=(m:Int):=by rw[IntWalk.i64_in _ (by omega)];omega
   have e2:(0:Int)<=(m:Int):=by omega
   have e4:(m:Int)<(f.st.length:Int):=by omega
   have e5:(0:Int)<=(k:Int):=by omega
   have e6:(k:Int)<(f.st.length:Int):=by omega
   have hbad:Hid (f.st[k].2<=f.st[m].2->false=B):=Lib.hid fun h=>hno.out (Pl.N7_rise (k:=m) (by omega) (by subst hmk;exact h))
   have hgood:Hid (f.st[m].2<f.st[k].2-> ∀j (h:j+1<f.st.length),j+1<k+1->f.st[j].2<f.st[j+1].2):=Lib.hid fun h j hj hjk=>by
    by_cases e:j+1=k
    ·subst hmk
     obtain rfl:j=m:=by omega
     exact h
    ·exact hg.out j hj (by omega)
   obtain⟨x,hx⟩: ∃x,f.st[k].2=x:=⟨_,rfl⟩
   obtain⟨y,hy⟩: ∃y,f.st[m].2=y:=⟨_,rfl⟩
   rw[hx]at q1 hbad hgood
   rw[hy]at r1 hbad hgood
   have HMK:=Lib.hid hmk
   clear hx hy hg hmk
   by_cases hxy:x<=y
   ·go_wp2
    go_region_held3 (fun W=>W.cell? ⟨w.heap.size,0,none⟩=some (.slice (some ⟨b,off,none⟩) f.st.length c1)∧W.cell? ⟨b,off+m*2+1,none⟩=some (.int .i64 y)∧W.cell? ⟨b,off+k*2+1,none⟩=some (.int .i64 x)) (exact⟨hc0,r1,q1⟩) (fail)
    all_goals go_wp2
    all_goals go_ret
    all_goals exact⟨ret_bool (by rw[<-hbad.out hxy]),by first|(go_grown;done)|exact below_drewN hall _⟩
   ·have hxy':y<x:=by omega
    go_wp2
    go_region_held3 (fun W=>W.cell? ⟨w.heap.size,0,none⟩=some (.slice (some ⟨b,off,none⟩) f.st.length c1)∧W.cell? ⟨b,off+m*2+1,none⟩=some (.int .i64 y)∧W.cell? ⟨b,off+k*2+1,none⟩=some (.int .i64 x)) (exact⟨hc0,r1,q1⟩) (fail)
    all_goals go_wp2
    all_goals (
     go_roundw
     case rel=>exact⟨k+1,by omega,by omega,by go_num,Lib.hid (hgood.out hxy'),kb,by first|(go_grown;done)|exact below_drewN hall _⟩
     case measure=>first|(simp[intOf];done)|(simp[intOf];omega))
  ·have hri:=Lib.hid (fun j (h:j+1<f.st.length)=>hg.out j h (by omega))
   clear hg
   go_wp2
   go_loopw [4] (fun i wr=> ∃(k:Nat),k<=f.pa.length∧i=.int .i64 k∧Hid (Pl.apart [] (f.pa.take k)=true)∧wr.heap[w.heap.size]?=some (.cells (fq A1 A2 A3 A4 c1 c2 c3 c4 f) 28 (0,0))∧Below w.heap.size w wr) (fun i _=>f.pa.length-(intOf i).toNat)
   case atStart=>exact⟨0,by omega,rfl,Lib.hid rfl,kb,hall⟩
   case round=>
    clear kb hall hckb hfkb hltkb hsz
    obtain⟨i,hi,rfl,hap,kb,hall⟩:=hrel
    obtain⟨hckb,hfkb⟩:=blk_cells kb
    have hltkb:=(lO kb)
    have hsz:=hall.size
    by_cases hlt:i<f.pa.length
    ·obtain⟨b,off,hA,hbB,q0,q1,q2,q3⟩:=Pars.at4 (hf.pa.below hall) hlt
     have hc2:wr.cell? ⟨w.heap.size,2,none⟩=some (.slice A3 f.pa.length c3):=hckb 2
     rw[hA]at hc2
     have e5:(0:Int)<=(i:Int):=by omega
     have e6:(i:Int)<(f.pa.length:Int):=by omega
     by_cases hft:f.pa[i].fr<f.pa[i].till
     ·have n1: ¬f.pa[i].till<=f.pa[i].fr:=by omega
      subst hA
      go_wp2
      go_region_held3 (fun W=>W.cell? ⟨w.heap.size,2,none⟩=some (.slice (some ⟨b,off,none⟩) f.pa.length c3)∧W.cell? ⟨b,off+i*4+2,none⟩=some (.int .i64 f.pa[i].fr)∧W.cell? ⟨b,off+i*4+3,none⟩=some (.int .i64 f.pa[i].till)) (exact⟨hc2,q2,q3⟩) (fail)
      all_goals go_wp2
      all_goals (
       go_loopw [5] (fun z wr=> ∃(k:Nat),k<=i∧z=.int .i64 k∧Hid (∀j (h:j<f.pa.length),j<k->Pl.over f.pa[i] f.pa[j]=false)∧wr.heap[w.heap.size]?=some (.cells (fq A1 A2 (some ⟨b,off,none⟩) A4 c1 c2 c3 c4 f) 28 (0,0))∧Below w.heap.size w wr) (fun z _=>i-(intOf z).toNat)
       case atStart=>exact⟨0,by omega,rfl,Lib.hid fun j _ h=>by omega,kb,by first|(go_grown;done)|exact below_drewN hall _⟩
       case round=>
        clear kb hall hckb hfkb hltkb hsz q0 q1 q2 q3 hc2
        obtain⟨k,hk,rfl,hov,kb,hall⟩:=hrel
        obtain⟨hckb,hfkb⟩:=blk_cells kb
        have hltkb:=(lO kb)
        have hsz:=hall.size
        by_cases hki:k<i
        ·have hltk:k<f.pa.length:=by omega
         obtain⟨b1,off1,hA1,_,r0,r1,r2,r3⟩:=Pars.at4 (hf.pa.below hall) hltk
         obtain⟨b2,off2,hA2,hbB2,q0,q1,q2,q3⟩:=Pars.at4 (hf.pa.below hall) hlt
         obtain⟨rfl,rfl⟩:b=b1∧off=off1:=by simpa using hA1
         obtain⟨rfl,rfl⟩:b=b2∧off=off2:=by simpa using hA2
         clear hA1 hA2
         have hc2:wr.cell? ⟨w.heap.size,2,none⟩=some (.slice (some ⟨b,off,none⟩) f.pa.length c3):=hckb 2
         have hbw:b<wr.heap.size:=by omega
         have g1:(0:Int)<=(k:Int):=by omega
         have g2:(k:Int)<(f.pa.length:Int):=by omega
         have hnext:Hid (Pl.over f.pa[i] f.pa[k]=false-> ∀j (h:j<f.pa.length),j<k+1->Pl.over f.pa[i] f.pa[j]=false):=Lib.hid fun h0 j h hj=>by
          by_cases e:j=k
          ·subst e;exact h0
          ·exact hov.out j h (by omega)
         have hbad:Hid (Pl.over f.pa[i] f.pa[k]=true->false=B):=Lib.hid fun h0=>hno.out (Pl.N7_apart hlt (fun h=>by rw[any_take (by omega) hki h0]at h;cases h.2))
         have P1:=hS _ (List.getElem_mem hlt)
         have P2:=hS _ (List.getElem_mem hltk)
         obtain⟨M,hM⟩: ∃M,max 0 (Pl.com2 f.pa[i] f.pa[k]+1)=M:=⟨_,rfl⟩
         have HM:=Lib.hid hM
         have hov2:Pl.over f.pa[i] f.pa[k]=(decide (f.pa[i].south=f.pa[k].south)&&decide (1<M)):=by
          unfold Pl.over
          rw[<-hM]
          congr 1
          exact decide_eq_decide.2 (by omega)
         rw[hov2]at hnext hbad
         have CM:=fun W=>comD_h f.pa[i] f.pa[k] M W HM P1 P2
         clear hov hov2 hM P1 P2 HM
         obtain⟨⟨pn,ps,pf,pt⟩,hp⟩: ∃p,f.pa[i]=p:=⟨_,rfl⟩
         obtain⟨⟨qn,qs,qf,qt⟩,hq⟩: ∃p,f.pa[k]=p:=⟨_,rfl⟩
         rw[hp,hq]at hnext hbad CM
         rw[hp]at q0 q1 q2 q3
         rw[hq]at r0 r1 r2 r3
         simp only at hnext hbad CM q0 q1 q2 q3 r0 r1 r2 r3
         have HPI:=Lib.hid hp
         clear hp hq
         by_cases hs:ps=qs
         ·subst hs
          by_cases hm1:1<M
          ·have hv:=Lib.hid (hbad.out (by simp[hm1]))
           go_wp2
           go_region_held3 (fun W=>W.cell? ⟨w.heap.size,2,none⟩=some (.slice (some ⟨b,off,none⟩) f.pa.length c3)∧(W.cell? ⟨b,off+i*4,none⟩=some (.string pn)∧W.cell? ⟨b,off+i*4+1,none⟩=some (.int .i64 ps)∧W.cell? ⟨b,off+i*4+2,none⟩=some (.int .i64 pf)∧W.cell? ⟨b,off+i*4+3,none⟩=some (.int .i64 pt))∧W.cell? ⟨b,off+k*4,none⟩=some (.string qn)∧W.cell? ⟨b,off+k*4+1,none⟩=some (.int .i64 ps)∧W.cell? ⟨b,off+k*4+2,none⟩=some (.int .i64 qf)∧W.cell? ⟨b,off+k*4+3,none⟩=some (.int .i64 qt)) (first|exact⟨z0,⟨z1,z2,z3,z4⟩,z5,z6,z7,z8⟩|exact⟨hc2,⟨q0,q1,q2,q3⟩,r0,r1,r2,r3⟩) ((go_at_call 127;refine(CM _).mono ?_;rintro e w1 ⟨rfl,hx⟩;have z0:=cell_keep hx hltkb hc2;have z1:=cell_keep hx hbw q0;have z2:=cell_keep hx hbw q1;have z3:=cell_keep hx hbw q2;have z4:=cell_keep hx hbw q3;have z5:=cell_keep hx hbw r0;have z6:=cell_keep hx hbw r1;have z7:=cell_keep hx hbw r2;have z8:=cell_keep hx hbw r3;have kb1:=(hx.block w.heap.size hltkb).trans kb;have hall1:Below w.heap.size w w1:=hall.drew.trans (hx.mono hsz)))
           all_goals go_wp2
           all_goals go_ret
           all_goals exact⟨ret_bool (by rw[<-hv.out]),hall1⟩
          ·have hv:=Lib.hid (hnext.out (by simp[hm1]))
           go_wp2
           go_region_held3 (fun W=>W.cell? ⟨w.heap.size,2,none⟩=some (.slice (some ⟨b,off,none⟩) f.pa.length c3)∧(W.cell? ⟨b,off+i*4,none⟩=some (.string pn)∧W.cell? ⟨b,off+i*4+1,none⟩=some (.int .i64 ps)∧W.cell? ⟨b,off+i*4+2,none⟩=some (.int .i64 pf)∧W.cell? ⟨b,off+i*4+3,none⟩=some (.int .i64 pt))∧W.cell? ⟨b,off+k*4,none⟩=some (.string qn)∧W.cell? ⟨b,off+k*4+1,none⟩=some (.int .i64 ps)∧W.cell? ⟨b,off+k*4+2,none⟩=some (.int .i64 qf)∧W.cell? ⟨b,off+k*4+3,none⟩=some (.int .i64 qt)) (first|exact⟨z0,⟨z1,z2,z3,z4⟩,z5,z6,z7,z8⟩|exact⟨hc2,⟨q0,q1,q2,q3⟩,r0,r1,r2,r3⟩) ((go_at_call 127;refine(CM _).mono ?_;rintro e w1 ⟨rfl,hx⟩;have z0:=cell_keep hx hltkb hc2;have z1:=cell_keep hx hbw q0;have z2:=cell_keep hx hbw q1;have z3:=cell_keep hx hbw q2;have z4:=cell_keep hx hbw q3;have z5:=cell_keep hx hbw r0;have z6:=cell_keep hx hbw r1;have z7:=cell_keep hx hbw r2;have z8:=cell_keep hx hbw r3;have kb1:=(hx.block w.heap.size hltkb).trans kb;have hall1:Below w.heap.size w w1:=hall.drew.trans (hx.mono hsz)))
           all_goals go_wp2
           all_goals exact⟨⟨k+1,by omega,by go_num,Lib.hid (by rw[HPI.out];exact hv.out),kb1,hall1⟩,by simp[intOf];omega⟩
         ·have hv:=Lib.hid (hnext.out (by simp[hs]))
          have hs2:(ps==qs)=false:=by rw[beq_eq_false_iff_ne];exact hs
          go_wp2
          refine wp_region_held_drew (S:=fun W=>W.cell? ⟨w.heap.size,2,none⟩=some (.slice (some ⟨b,off,none⟩) f.pa.length c3)∧W.cell? ⟨b,off+i*4+1,none⟩=some (.int .i64 ps)∧W.cell? ⟨b,off+k*4+1,none⟩=some (.int .i64 qs)) (by kernel_rfl) ⟨hc2,q1,r1⟩ (fun hHeld=> ?_)
          refine tH 0 (some 52) (v:= ?v1) rfl rfl (fun W hW=> ?hy1) ?hr1
          case hy1=>(try dsimp only at hW);obtain⟨y0,y1,y2⟩:=hW;go_simp;try with_reducible rfl
          try simp only[Act.put,List.setIfInBounds_toArray,List.set_cons_zero,List.set_cons_succ]
          refine tH 1 (some 53) (v:= ?v2) rfl rfl (fun W hW=> ?hy2) ?hr2
          case hy2=>(try dsimp only at hW);obtain⟨y0,y1,y2⟩:=hW;go_simp;try with_reducible rfl
          try simp only[Act.put,List.setIfInBounds_toArray,List.set_cons_zero,List.set_cons_succ]
          refine tH 2 (some 54) (v:= ?v3) rfl rfl (fun W hW=> ?hy3) ?hr3
          case hy3=>(try dsimp only at hW);obtain⟨y0,y1,y2⟩:=hW;go_simp;try with_reducible rfl
          try simp only[Act.put,List.setIfInBounds_toArray,List.set_cons_zero,List.set_cons_succ]
          refine tH 3 (some 55) (v:= ?v4) rfl rfl (fun W hW=> ?hy4) ?hr4
          case hy4=>(try dsimp only at hW);obtain⟨y0,y1,y2⟩:=hW;go_simp;try with_reducible rfl
          try simp only[Act.put,List.setIfInBounds_toArray,List.set_cons_zero,List.set_cons_succ]
          refine tH 4 (some 56) (v:= ?v5) rfl rfl (fun W hW=> ?hy5) ?hr5
          case hy5=>(try dsimp only at hW);obtain⟨y0,y1,y2⟩:=hW;go_simp;try with_reducible rfl
          try simp only[Act.put,List.setIfInBounds_toArray,List.set_cons_zero,List.set_cons_succ]
          refine tH 5 (some 57) (v:= ?v6) rfl rfl (fun W hW=> ?hy6) ?hr6
          case hy6=>(try dsimp only at hW);obtain⟨y0,y1,y2⟩:=hW;go_simp;try with_reducible rfl
          try simp only[Act.put,List.setIfInBounds_toArray,List.set_cons_zero,List.set_cons_succ]
          refine tH 6 (some 58) (v:= ?v7) rfl rfl (fun W hW=> ?hy7) ?hr7
          case hy7=>(try dsimp only at hW);obtain⟨y0,y1,y2⟩:=hW;go_simp;try with_reducible rfl
          try simp only[Act.put,List.setIfInBounds_toArray,List.set_cons_zero,List.set_cons_succ]
          refine tH 7 (some 59) (v:= ?v8) rfl rfl (fun W hW=> ?hy8) ?hr8
          case hy8=>(try dsimp only at hW);obtain⟨y0,y1,y2⟩:=hW;go_simp;try with_reducible rfl
          try simp only[Act.put,List.setIfInBounds_toArray,List.set_cons_zero,List.set_cons_succ]
          refine tH 8 (some 60) (v:= ?v9) rfl rfl (fun W hW=> ?hy9) ?hr9
          case hy9=>(try dsimp only at hW);obtain⟨y0,y1,y2⟩:=hW;go_simp;try with_reducible rfl
          try simp only[Act.put,List.setIfInBounds_toArray,List.set_cons_zero,List.set_cons_succ]
          refine tH 9 (some 61) (v:= ?v10) rfl rfl (fun W hW=> ?hy10) ?hr10
          case hy10=>(try dsimp only at hW);obtain⟨y0,y1,y2⟩:=hW;go_simp;try with_reducible rfl
          try simp only[Act.put,List.setIfInBounds_toArray,List.set_cons_zero,List.set_cons_succ]
          refine tH 10 (some 62) (v:= ?v11) rfl rfl (fun W hW=> ?hy11) ?hr11
          case hy11=>(try dsimp only at hW);obtain⟨y0,y1,y2⟩:=hW;go_simp;try with_reducible rfl
          try simp only[Act.put,List.setIfInBounds_toArray,List.set_cons_zero,List.set_cons_succ]
          refine tH 11 (some 63) (v:= ?v12) rfl rfl (fun W hW=> ?hy12) ?hr12
          case hy12=>(try dsimp only at hW);obtain⟨y0,y1,y2⟩:=hW;go_simp;try with_reducible rfl
          try simp only[Act.put,List.setIfInBounds_toArray,List.set_cons_zero,List.set_cons_succ]
          refine tH 12 (some 64) (v:= ?v13) rfl rfl (fun W hW=> ?hy13) ?hr13
          case hy13=>(try dsimp only at hW);obtain⟨y0,y1,y2⟩:=hW;go_simp;try with_reducible rfl
          try simp only[Act.put,List.setIfInBounds_toArray,List.set_cons_zero,List.set_cons_succ]
          refine tH 13 (some 65) (v:= ?v14) rfl rfl (fun W hW=> ?hy14) ?hr14
          case hy14=>(try dsimp only at hW);obtain⟨y0,y1,y2⟩:=hW;go_simp;try with_reducible rfl
          try simp only[Act.put,List.setIfInBounds_toArray,List.set_cons_zero,List.set_cons_succ]
          refine takeH 14 (some 66) (v:=undef) rfl rfl (by kernel_rfl) (by kernel_rfl) (by kernel_rfl) (fun _ _ _ h=>h) (Or.inr ⟨by rfl,rfl⟩) (by assumption) ?_
          try simp only[Act.put,List.setIfInBounds_toArray,List.set_cons_zero,List.set_cons_succ]
          refine takeH 15 (some 67) (v:=undef) rfl rfl (by kernel_rfl) (by kernel_rfl) (by kernel_rfl) (fun _ _ _ h=>h) (Or.inr ⟨by rfl,rfl⟩) (by assumption) ?_
          try simp only[Act.put,List.setIfInBounds_toArray,List.set_cons_zero,List.set_cons_succ]
          refine takeH 16 (some 68) (v:=undef) rfl rfl (by kernel_rfl) (by kernel_rfl) (by kernel_rfl) (fun _ _ _ h=>h) (Or.inr ⟨by rfl,rfl⟩) (by assumption) ?_
          try simp only[Act.put,List.setIfInBounds_toArray,List.set_cons_zero,List.set_cons_succ]
          refine takeH 17 (some 69) (v:=undef) rfl rfl (by kernel_rfl) (by kernel_rfl) (by kernel_rfl) (fun _ _ _ h=>h) (Or.inr ⟨by rfl,rfl⟩) (by assumption) ?_
          try simp only[Act.put,List.setIfInBounds_toArray,List.set_cons_zero,List.set_cons_succ]
          refine takeH 18 (some 70) (v:=undef) rfl rfl (by kernel_rfl) (by kernel_rfl) (by kernel_rfl) (fun _ _ _ h=>h) (Or.inr ⟨by rfl,rfl⟩) (by assumption) ?_
          try simp only[Act.put,List.setIfInBounds_toArray,List.set_cons_zero,List.set_cons_succ]
          refine takeH 19 (some 71) (v:=undef) rfl rfl (by kernel_rfl) (by kernel_rfl) (by kernel_rfl) (fun _ _ _ h=>h) (Or.inr ⟨by rfl,rfl⟩) (by assumption) ?_
          try simp only[Act.put,List.setIfInBounds_toArray,List.set_cons_zero,List.set_cons_succ]
          refine takeH 20 (some 72) (v:=undef) rfl rfl (by kernel_rfl) (by kernel_rfl) (by kernel_rfl) (fun _ _ _ h=>h) (Or.inr ⟨by rfl,rfl⟩) (by assumption) ?_
          try simp only[Act.put,List.setIfInBounds_toArray,List.set_cons_zero,List.set_cons_succ]
          refine takeH 21 (some 73) (v:=undef) rfl rfl (by kernel_rfl) (by kernel_rfl) (by kernel_rfl) (fun _ _ _ h=>h) (Or.inr ⟨by rfl,rfl⟩) (by assumption) ?_
          try simp only[Act.put,List.setIfInBounds_toArray,List.set_cons_zero,List.set_cons_succ]
          refine takeH 22 (some 74) (v:=undef) rfl rfl (by kernel_rfl) (by kernel_rfl) (by kernel_rfl) (fun _ _ _ h=>h) (Or.inr ⟨by rfl,rfl⟩) (by assumption) ?_
          try simp only[Act.put,List.setIfInBounds_toArray,List.set_cons_zero,List.set_cons_succ]
          refine takeH 23 (some 75) (v:=undef) rfl rfl (by kernel_rfl) (by kernel_rfl) (by kernel_rfl) (fun _ _ _ h=>h) (Or.inr ⟨by rfl,rfl⟩) (by assumption) ?_
          try simp only[Act.put,List.setIfInBounds_toArray,List.set_cons_zero,List.set_cons_succ]
          refine takeH 24 (some 76) (v:=undef) rfl rfl (by kernel_rfl) (by kernel_rfl) (by kernel_rfl) (fun _ _ _ h=>h) (Or.inr ⟨by rfl,rfl⟩) (by assumption) ?_
          try simp only[Act.put,List.setIfInBounds_toArray,List.set_cons_zero,List.set_cons_succ]
          refine takeH 25 (some 77) (v:=undef) rfl rfl (by kernel_rfl) (by kernel_rfl) (by kernel_rfl) (fun _ _ _ h=>h) (Or.inr ⟨by rfl,rfl⟩) (by assumption) ?_
          try simp only[Act.put,List.setIfInBounds_toArray,List.set_cons_zero,List.set_cons_succ]
          refine tH 26 (some 78) (v:= ?v15) rfl rfl (fun W hW=> ?hy15) ?hr15
          case hy15=>(try dsimp only at hW);obtain⟨y0,y1,y2⟩:=hW;go_simp;try with_reducible rfl
          try simp only[Act.put,List.setIfInBounds_toArray,List.set_cons_zero,List.set_cons_succ]
          refine wpAnyH_done (by kernel_rfl) ?_ _
          go_wp2
          exact⟨⟨k+1,by omega,by go_num,Lib.hid (by rw[HPI.out];exact hv.out),kb,by first|exact hall.drew|exact below_drewN hall _⟩,by simp[intOf];omega⟩
        ·obtain rfl:k=i:=by omega
         have hv:=Lib.hid (Pl.apart_step hlt hap.out hft (none_take hov.out))
         go_wp2
         exact⟨⟨k+1,by omega,by go_num,hv,kb,hall⟩,by simp[intOf];omega⟩)
     ·have n1:f.pa[i].till<=f.pa[i].fr:=by omega
      have hv:=Lib.hid (hno.out (Pl.N7_apart hlt (fun h=>hft h.1)))
      subst hA
      go_wp2
      go_region_held3 (fun W=>W.cell? ⟨w.heap.size,2,none⟩=some (.slice (some ⟨b,off,none⟩) f.pa.length c3)∧W.cell? ⟨b,off+i*4+2,none⟩=some (.int .i64 f.pa[i].fr)∧W.cell? ⟨b,off+i*4+3,none⟩=some (.int .i64 f.pa[i].till)) (exact⟨hc2,q2,q3⟩) (fail)
      all_goals go_wp2
      all_goals go_ret
      all_goals exact⟨ret_bool (by rw[<-hv.out]),by first|(go_grown;done)|exact below_drewN hall _⟩
    ·have hv:=Lib.hid (hyes.out (Pl.N7_ok hri.out (by have:=hap.out;rw[List.take_of_length_le (by omega)]at this;exact this)))
     go_wp2
     go_ret
     exact⟨ret_bool (by rw[<-hv.out]),hall⟩
end Go.Proofs.YtgbpekeoegfjpaaGreatDoor
set_option maxRecDepth 100000
namespace Go.Proofs.YtgbpekeoegfjpaaGreatDoor
open Go.RowKit
namespace Pl
theorem idx_le {α:Type}{p:α->Bool}: ∀ {l:List α} {j:Nat} (hj:j<l.length),p l[j]=true-> ∃m,m<=j∧idx p l=some m
 | a::l,j,hj,hp=>by
  unfold idx
  cases h:p a with
  |true=>exact⟨0,by omega,by simp⟩
  | false=>
   cases j with
   |zero=>simp only[List.getElem_cons_zero]at hp;rw[hp]at h;cases h
   |succ j=>
    obtain⟨m,hm,he⟩:=idx_le (l:=l) (j:=j) (by simpa using hj) (by simpa using hp)
    exact⟨m+1,by omega,by simp[he]⟩
theorem place_lt {l:List ByteArray}{i:Nat}(h:i<l.length)(hm:l[i]∈l.take i):pos (idx (fun x=>decide (x=l[i])) l)<(i:Int):=by
 obtain⟨j,hj,hjk⟩:=List.mem_take_iff_getElem.1 hm
 obtain⟨m,hm,he⟩:=idx_le (p:=fun x=>decide (x=l[i])) (l:=l) (j:=j) (by omega) (by simpa using hjk)
 rw[he]
 show((m:Nat):Int)<(i:Int)
 omega
theorem place_eq {l:List ByteArray}{i:Nat}(h:i<l.length)(hm:l[i]∉l.take i):pos (idx (fun x=>decide (x=l[i])) l)=(i:Int):=by
 rw[idx_hit (p:=fun x=>decide (x=l[i])) h (fun j hj=>decide_eq_false fun e=>hm (List.mem_take_iff_getElem.2 ⟨j,by omega,e⟩)) (by simp)]
 rfl
theorem nms_all {f:Fld}{P:List ByteArray->Prop}(h: ∀k,k<3->P (nms f k)):P f.sn∧P f.li∧P f.pn:=⟨h 0 (by omega),h 1 (by omega),h 2 (by omega)⟩
theorem nms_one {f:Fld}{P:List ByteArray->Prop}{k:Nat}(hk:k<3)(h:P (nms f k)):P f.sn∨P f.li∨P f.pn:=by
 match k,hk with
 |0,_=>exact .inl h
 |1,_=>exact .inr (.inl h)
 |2,_=>exact .inr (.inr h)
theorem nms_N4 {f:Fld}(h: ∀k,k<3->(nms f k).all isName=true):f.N4:=by
 obtain⟨a,b,c⟩:=nms_all (P:=fun l=>l.all isName=true) h
 unfold Fld.N4;rw[a,b,c];rfl
theorem nms_N4_no {f:Fld}{k j:Nat}(hk:k<3)(hj:j<(nms f k).length)(h:isName (nms f k)[j]=false): ¬f.N4:=by
 have hall:(nms f k).all isName=false:=by
  rw[List.all_eq_false];exact⟨_,List.getElem_mem hj,by simp[h]⟩
 unfold Fld.N4
 rcases nms_one (P:=fun l=>l.all isName=false) hk hall with e|e|e<;>rw[e]<;>simp
theorem nms_N5 {f:Fld}(h: ∀k,k<3->twice (nms f k)=false):f.N5:=by
 obtain⟨a,b,c⟩:=nms_all (P:=fun l=>twice l=false) h
 unfold Fld.N5;rw[a,b,c];rfl
theorem nms_N5_no {f:Fld}{k:Nat}(hk:k<3)(h:twice (nms f k)=true): ¬f.N5:=by
 unfold Fld.N5
 rcases nms_one (P:=fun l=>twice l=true) hk h with e|e|e<;>rw[e]<;>simp
end Pl
theorem nms_size {f:Pl.Fld}(hm:Small f){k:Nat}: ∀s∈Pl.nms f k,s.size<=100000:=by
 intro s hs
 unfold Pl.nms at hs
 split at hs
 ·obtain⟨x,hx,rfl⟩:=List.mem_map.1 hs;exact hm.sn x hx
 ·split at hs
  ·exact hm.ln s hs
  ·obtain⟨x,hx,rfl⟩:=List.mem_map.1 hs;exact hm.pn x hx
theorem nms_len {f:Pl.Fld}(hm:Small f){k:Nat}:(Pl.nms f k).length<=100000:=by
 unfold Pl.nms
 split
 ·unfold Pl.Fld.sn;simp;exact hm.st
 ·split
  ·exact hm.li
  ·unfold Pl.Fld.pn;simp;exact hm.pa
set_option maxHeartbeats 8000000 in
theorem checkFieldB_rest (A1 A2 A3 A4:Option Addr) (c1 c2 c3 c4:Nat) (f:Pl.Fld) (w:World) (hf:FldS w w.heap.size A1 A2 A3 A4 f) (hm:Small f) (hc:Caps c1 c2 c3 c4 f) (h1:f.N1) (h2:f.N2) (h3:Pl.vars f.va=0):
  Calls Tryz.prog 43 #[.agg (fq A1 A2 A3 A4 c1 c2 c3 c4 f)] w fun e w'=>e=.returned (.int .i64 (Pl.fieldE f))∧Below w.heap.size w w':=by
 have h1':f.st.length<=12∧f.li.length<=10∧f.pa.length<=40:=by unfold Pl.Fld.N1 at h1;omega
 have h2':2<=f.st.length∧1<=f.li.length:=by unfold Pl.Fld.N2 at h2;omega
 obtain⟨k1,k2,k3⟩:=h1'
 obtain⟨k4,k5⟩:=h2'
 have hml:f.va.length<=maxLen:=by have:=hm.va;unfold maxLen;omega
 have H1:=Lib.hid h1;have H2:=Lib.hid h2;have H3:=Lib.hid h3
 clear h1 h2 h3
 have vb:=fun W (a:Vars W W.heap.size A4 f.va)=>vars_b A4 c4 f.va W a hml
 rw[H3.out]at vb
 have kb:=heap_alloc_new w (.cells (fq A1 A2 A3 A4 c1 c2 c3 c4 f) 28)
 go_enter Tryz.func43,Tryz.ntmps43
 go_wp2_with (go_at_call 112;refine(vb _ (hf.va.up (by go_grown))).mono ?_;rintro e w1 ⟨rfl,hx⟩;obtain⟨kb,hckb,hfkb,hltkb⟩:=kB hx kb;have hall:Below w.heap.size w w1:=Below.trans (by go_grown) (hx.mono (by go_size));have hsz:w.heap.size<=w1.heap.size:=hall.size;clear hx)
 clear vb
 go_loopw [4] (fun z wr=> ∃(k:Nat),k<=3∧z=.int .i64 k∧Hid (∀j,j<k->(Pl.nms f j).all Pl.isName=true)∧wr.heap[w.heap.size]?=some (.cells (fq A1 A2 A3 A4 c1 c2 c3 c4 f) 28 (0,0))∧Below w.heap.size w wr) (fun z _=>3-(intOf z).toNat)
 case atStart=>exact⟨0,by omega,rfl,Lib.hid fun j h=>by omega,kb,by go_grown⟩
 case round=>
  clear kb hckb hfkb hltkb hall hsz
  obtain⟨k,hk,rfl,hg,kb,hall⟩:=hrel
  obtain⟨hckb,hfkb⟩:=blk_cells kb
  have hltkb:=(lO kb)
  have hsz:=hall.size
  by_cases hlt:k<3
  ·have g1:(k:Int)<3:=by omega
   go_wp2_with (go_at_call 113;refine(names_b A1 A2 A3 A4 c1 c2 c3 c4 f k hlt _ (hf.up hall) hm).mono ?_;rintro e w2 ⟨B,d,rfl,hN,hd,hF,hx⟩;have kb2:=(hx.block w.heap.size hltkb).trans kb;have hall2:Below w.heap.size w w2:=hall.trans (hx.mono hsz))
   have hnl:=nms_len (k:=k) hm
   go_loopw [6] (fun z W=> ∃(i:Nat),i<=(Pl.nms f k).length∧z=.int .i64 i∧Hid (∀j (h:j<(Pl.nms f k).length),j<i->Pl.isName (Pl.nms f k)[j]=true)∧w2=W) (fun z _=>(Pl.nms f k).length-(intOf z).toNat)
   case atStart=>exact⟨0,by omega,rfl,Lib.hid fun j _ h=>by omega,rfl⟩
   case round=>
    obtain⟨i,hi,rfl,hq,rfl⟩:=hrel
    by_cases hlti:i<(Pl.nms f k).length
    ·obtain⟨b,off,rfl,hbB,q0⟩:=Nms.at1 hN hlti
     have hsz1:=nms_size hm _ (List.getElem_mem hlti)
     cases hb:Pl.isName (Pl.nms f k)[i]with
     | true=>
      have HB:=Lib.hid hb
      have ib:=fun W=>isName_b (Pl.nms f k)[i] W hsz1
      rw[hb]at ib
      clear hb
      go_wp2_with (go_at_call 114;refine(ib _).mono ?_;rintro e w3 ⟨rfl,rfl⟩)
      go_roundw
      case rel=>exact⟨i+1,by omega,by go_num,Lib.hid fun j h hj=>by
       by_cases e:j=i
       ·subst e;exact HB.out
       ·exact hq.out j h (by omega),by trivial⟩
      case measure=>first|(simp[intOf];done)|(simp[intOf];omega)
     |false=>
      have hE:=Lib.hid (Pl.fieldE_4 H1.out H2.out H3.out (Pl.nms_N4_no hlt hlti hb))
      have ib:=fun W=>isName_b (Pl.nms f k)[i] W hsz1
      rw[hb]at ib
      clear hb
      go_wp2_with (go_at_call 114;refine(ib _).mono ?_;rintro e w3 ⟨rfl,rfl⟩)
      go_ret
      exact⟨ret_int (by rw[hE.out]),hall2⟩
    ·have hn:Hid ((Pl.nms f k).all Pl.isName=true):=Lib.hid (by
      rw[List.all_eq_true];intro s hs
      obtain⟨j,hj,rfl⟩:=List.getElem_of_mem hs
      exact hq.out j hj (by omega))
     have hn2:Hid (∀j,j<k+1->(Pl.nms f j).all Pl.isName=true):=Lib.hid fun j hj=>by
      by_cases e:j=k
      ·subst e;exact hn.out
      ·exact hg.out j (by omega)
     go_wp2
     exact⟨⟨k+1,by omega,by go_num,hn2,kb2,hall2⟩,by simp[intOf];omega⟩
  ·have g3 : ¬(k:Int)<3:=by omega
   have N4:=Lib.hid (Pl.nms_N4 (f:=f) fun j hj=>hg.out j (by omega))
   clear hg
   go_wp2
   go_loopw [7] (fun z wr=> ∃(k:Nat),k<=3∧z=.int .i64 k∧Hid (∀j,j<k->Pl.twice (Pl.nms f j)=false)∧wr.heap[w.heap.size]?=some (.cells (fq A1 A2 A3 A4 c1 c2 c3 c4 f) 28 (0,0))∧Below w.heap.size w wr) (fun z _=>3-(intOf z).toNat)
   case atStart=>exact⟨0,by omega,rfl,Lib.hid fun j h=>by omega,kb,by go_grown⟩
   case round=>
    clear kb hckb hfkb hltkb hall hsz
    obtain⟨k,hk,rfl,hg,kb,hall⟩:=hrel
    obtain⟨hckb,hfkb⟩:=blk_cells kb
    have hltkb:=(lO kb)
    have hsz:=hall.size
    by_cases hlt:k<3
    ·have g1:(k:Int)<3:=by omega
     go_wp2_with (go_at_call 113;refine(names_b A1 A2 A3 A4 c1 c2 c3 c4 f k hlt _ (hf.up hall) hm).mono ?_;rintro e w2 ⟨B,d,rfl,hN,hd,hF,hx⟩;have kb2:=(hx.block w.heap.size hltkb).trans kb;have hall2:Below w.heap.size w w2:=hall.trans (hx.mono hsz))
     have hnl:=nms_len (k:=k) hm
     go_loopw [9] (fun z W=> ∃(i:Nat),i<=(Pl.nms f k).length∧z=.int .i64 i∧Hid (∀j (h:j<(Pl.nms f k).length),j<i->(Pl.nms f k)[j]∉(Pl.nms f k).take j)∧w2=W) (fun z _=>(Pl.nms f k).length-(intOf z).toNat)
     case atStart=>exact⟨0,by omega,rfl,Lib.hid fun j _ h=>by omega,rfl⟩
     case round=>
      obtain⟨i,hi,rfl,hq,rfl⟩:=hrel
      by_cases hlti:i<(Pl.nms f k).length
      ·have pb:=fun W (a:Nms W W.heap.size B (Pl.nms f k))=>place_b B d (Pl.nms f k) (Pl.nms f k)[i] W a (by have:=nms_len (k:=k) hm;omega)
       obtain⟨P,hP⟩: ∃P,Pl.pos (Pl.idx (fun x=>decide (x=(Pl.nms f k)[i])) (Pl.nms f k))=P:=⟨_,rfl⟩
       rw[hP]at pb
       obtain⟨b,off,hB,hbB,q0⟩:=Nms.at1 hN hlti
       have hN':=hN
       subst hB
       by_cases hmem:(Pl.nms f k)[i]∈(Pl.nms f k).take i
       ·have hE:=Lib.hid (Pl.fieldE_6 H1.out H2.out H3.out N4.out (Pl.nms_N5_no hlt (Pl.twice_hit hlti hmem)))
        have hPi:P<(i:Int):=by rw[<-hP];exact Pl.place_lt hlti hmem
        clear hmem hP
        go_wp2_with (go_at_call 115;refine(pb _ hN').mono ?_;rintro e w3 ⟨rfl,rfl⟩)
        go_ret
        exact⟨ret_int (by rw[hE.out]),hall2⟩
       ·have hPi: ¬P<(i:Int):=by rw[<-hP,Pl.place_eq hlti hmem];omega
        have HM:=Lib.hid hmem
        clear hmem hP
        go_wp2_with (go_at_call 115;refine(pb _ hN').mono ?_;rintro e w3 ⟨rfl,rfl⟩)
        go_roundw
        case rel=>exact⟨i+1,by omega,by go_num,Lib.hid fun j h hj=>by
         by_cases e:j=i
         ·subst e;exact HM.out
         ·exact hq.out j h (by omega),by trivial⟩
        case measure=>first|(simp[intOf];done)|(simp[intOf];omega)
      ·have hn:=Lib.hid (Pl.twice_none (l:=Pl.nms f k) fun j hj=>hq.out j hj (by omega))
       have hn2:Hid (∀j,j<k+1->Pl.twice (Pl.nms f j)=false):=Lib.hid fun j hj=>by
        by_cases e:j=k
        ·subst e;exact hn.out
        ·exact hg.out j (by omega)
       go_wp2
       exact⟨⟨k+1,by omega,by go_num,hn2,kb2,hall2⟩,by simp[intOf];omega⟩
    ·have g4: ¬(k:Int)<3:=by omega
     have N5:=Lib.hid (Pl.nms_N5 (f:=f) fun j hj=>hg.out j (by omega))
     clear hg
     go_wp2
     go_loopw [10] (fun z wr=> ∃(k:Nat),k<=f.st.length∧z=.int .i64 k∧Hid (∀j (h:j<f.st.length),j<k->0<=f.st[j].2∧f.st[j].2<=100000)∧wr.heap[w.heap.size]?=some (.cells (fq A1 A2 A3 A4 c1 c2 c3 c4 f) 28 (0,0))∧Below w.heap.size w wr) (fun z _=>f.st.length-(intOf z).toNat)
     case atStart=>exact⟨0,by omega,rfl,Lib.hid fun j _ h=>by omega,kb,hall⟩
     case round=>
      clear kb hckb hfkb hltkb hall hsz
      obtain⟨k,hk,rfl,hg,kb,hall⟩:=hrel
      obtain⟨hckb,hfkb⟩:=blk_cells kb
      have hltkb:=(lO kb)
      have hsz:=hall.size
      by_cases hlt:k<f.st.length
      ·obtain⟨b,off,rfl,hbB,q0,q1⟩:=Stas.at2 (hf.st.below hall) hlt
       cases hin:Pl.inB f.st[k].2 0 100000 with
       | true=>
        have hok:Hid (0<=f.st[k].2∧f.st[k].2<=100000):=Lib.hid (by simpa [Pl.inB]using hin)
        go_wp2_with (go_at_call 102;refine(within_b _ _ _ _).mono ?_;rintro e w' ⟨rfl,rfl⟩)
        go_roundw
        case rel=>exact⟨k+1,by omega,by go_num,Lib.hid fun j h hj=>by
         by_cases e:j=k
         ·subst e;exact hok.out
         ·exact hg.out j h (by omega),kb,hall⟩
        case measure=>first|(simp[intOf];done)|(simp[intOf];omega)
       |false=>
        have hE:=Lib.hid (Pl.fieldE_1 H1.out H2.out H3.out N4.out N5.out (Pl.N6_st hlt (fun h=>by simp[Pl.inB,h.1,h.2]at hin)))
        go_wp2_with (go_at_call 102;refine(within_b _ _ _ _).mono ?_;rintro e w' ⟨rfl,rfl⟩)
        go_ret
        exact⟨ret_int (by rw[hE.out]),hall⟩
      ·have hst:=Lib.hid (fun j h=>hg.out j h (by omega))
       clear hg
       go_wp2
       go_loopw [11] (fun z wr=> ∃(k:Nat),k<=f.pa.length∧z=.int .i64 k∧Hid (∀j (h:j<f.pa.length),j<k->Pl.parIn f.st.length f.li.length f.pa[j]=true)∧wr.heap[w.heap.size]?=some (.cells (fq A1 A2 A3 A4 c1 c2 c3 c4 f) 28 (0,0))∧Below w.heap.size w wr) (fun z _=>f.pa.length-(intOf z).toNat)
       case atStart=>exact⟨0,by omega,rfl,Lib.hid fun j _ h=>by omega,kb,hall⟩
       case round=>
        clear kb hckb hfkb hltkb hall hsz
        obtain⟨k,hk,rfl,hg,kb,hall⟩:=hrel
        obtain⟨hckb,hfkb⟩:=blk_cells kb
        have hltkb:=(lO kb)
        have hsz:=hall.size
        by_cases hlt:k<f.pa.length
        ·obtain⟨b,off,rfl,hbB,q0,q1,q2,q3⟩:=Pars.at4 (hf.pa.below hall) hlt
         have hpi:Pl.parIn f.st.length f.li.length f.pa[k]=(Pl.inB f.pa[k].south 0 ((f.li.length:Int)-2)&&Pl.inB f.pa[k].fr 0 ((f.st.length:Int)-1)&&Pl.inB f.pa[k].till 0 ((f.st.length:Int)-1)):=by
          simp[Pl.parIn,Pl.inB]
         cases i1:Pl.inB f.pa[k].south 0 ((f.li.length:Int)-2)with
         |false=>
          have hE:=Lib.hid (Pl.fieldE_1 H1.out H2.out H3.out N4.out N5.out (Pl.N6_pa hlt (by rw[hpi,i1];rfl)))
          clear hpi
          go_wp2_with (go_at_call 102;refine(within_b _ _ _ _).mono ?_;rintro e w' ⟨rfl,rfl⟩)
          go_ret
          exact⟨ret_int (by rw[hE.out]),by go_grown⟩
         |true=>
         cases i2:Pl.inB f.pa[k].fr 0 ((f.st.length:Int)-1)with
         |false=>
          have hE:=Lib.hid (Pl.fieldE_1 H1.out H2.out H3.out N4.out N5.out (Pl.N6_pa hlt (by rw[hpi,i1,i2];rfl)))
          clear hpi
          go_wp2_with (go_at_call 102;refine(within_b _ _ _ _).mono ?_;rintro e w' ⟨rfl,rfl⟩)
          go_ret
          exact⟨ret_int (by rw[hE.out]),by go_grown⟩
         |true=>
         cases i3:Pl.inB f.pa[k].till 0 ((f.st.length:Int)-1)with
         |false=>
          have hE:=Lib.hid (Pl.fieldE_1 H1.out H2.out H3.out N4.out N5.out (Pl.N6_pa hlt (by rw[hpi,i1,i2,i3];rfl)))
          clear hpi
          go_wp2_with (go_at_call 102;refine(within_b _ _ _ _).mono ?_;rintro e w' ⟨rfl,rfl⟩)
          go_ret
          exact⟨ret_int (by rw[hE.out]),by go_grown⟩
         | true=>
          have hok:Hid (Pl.parIn f.st.length f.li.length f.pa[k]=true):=Lib.hid (by rw[hpi,i1,i2,i3];rfl)
          clear hpi
          go_wp2_with (go_at_call 102;refine(within_b _ _ _ _).mono ?_;rintro e w' ⟨rfl,rfl⟩)
          go_roundw
          case rel=>exact⟨k+1,by omega,by go_num,Lib.hid fun j h hj=>by
           by_cases e:j=k
           ·subst e;exact hok.out
           ·exact hg.out j h (by omega),(Below.heap_alloc _ _ _ hltkb).trans kb,by go_grown⟩
          case measure=>first|(simp[intOf];done)|(simp[intOf];omega)
        ·have hpa:=Lib.hid (fun j h=>hg.out j h (by omega))
         have N6:=Lib.hid (Pl.N6_ok hst.out hpa.out)
         have hS: ∀p∈f.pa,Pl.parIn 12 10 p=true:=fun q hq=>by
          obtain⟨j,hj,rfl⟩:=List.getElem_of_mem hq
          have:=hpa.out j hj
          unfold Pl.parIn at this ⊢
          simp at this ⊢
          omega
         clear hg hst
         by_cases h7:f.N7
         ·have hE:=Lib.hid (Pl.fieldE_0 H1.out H2.out H3.out N4.out N5.out N6.out h7)
          have hB7:Hid (true=true↔f.N7):=Lib.hid (by simp[h7])
          clear h7
          go_wp2_with (go_at_call 116;refine(ordered_b A1 A2 A3 A4 c1 c2 c3 c4 f true _ (hf.up hall) hm hc k1 k3 hS hB7).mono ?_;rintro e w3 ⟨rfl,hx⟩;have hall3:Below w.heap.size w w3:=hall.trans (hx.mono hsz))
          go_ret
          exact⟨ret_int (by rw[hE.out]),hall3⟩
         ·have hE:=Lib.hid (Pl.fieldE_30 H1.out H2.out H3.out N4.out N5.out N6.out h7)
          have hB7:Hid (false=true↔f.N7):=Lib.hid (by simp[h7])
          clear h7
          go_wp2_with (go_at_call 116;refine(ordered_b A1 A2 A3 A4 c1 c2 c3 c4 f false _ (hf.up hall) hm hc k1 k3 hS hB7).mono ?_;rintro e w3 ⟨rfl,hx⟩;have hall3:Below w.heap.size w w3:=hall.trans (hx.mono hsz))
          go_ret
          exact⟨ret_int (by rw[hE.out]),hall3⟩
end Go.Proofs.YtgbpekeoegfjpaaGreatDoor
set_option maxRecDepth 100000
namespace Go.Proofs.YtgbpekeoegfjpaaGreatDoor
open Go.RowKit
variable (A1 A2 A3 A4 : Option Addr) (c1 c2 c3 c4 : Nat) (f : Pl.Fld)
set_option maxHeartbeats 2000000 in
theorem checkFieldB_big (w:World)(_hf:FldS w w.heap.size A1 A2 A3 A4 f)(hm:Small f)(_hc:Caps c1 c2 c3 c4 f)(h1: ¬f.N1):
  Calls Tryz.prog 43 #[.agg (fq A1 A2 A3 A4 c1 c2 c3 c4 f)] w fun e w'=>e=.returned (.int .i64 (Pl.fieldE f))∧Below w.heap.size w w':=by
 have hE:=Lib.hid (Pl.fieldE_2 h1)
 have h1':12<f.st.length∨(f.st.length<=12∧10<f.li.length)∨(f.st.length<=12∧f.li.length<=10∧40<f.pa.length):=by unfold Pl.Fld.N1 at h1;omega
 obtain⟨m1,m2,m3,m4⟩:=hm
 clear h1
 rcases h1' with h|⟨h,h'⟩|⟨h,h',h''⟩
 all_goals
  go_enter Tryz.func43,Tryz.ntmps43
  go_wp2
  go_ret
  exact⟨ret_int (by rw[hE.out]),by go_grown⟩
set_option maxHeartbeats 4000000 in
theorem checkFieldB_few (w:World)(_hf:FldS w w.heap.size A1 A2 A3 A4 f)(_hm:Small f)(_hc:Caps c1 c2 c3 c4 f)(h1:f.N1)(h2: ¬f.N2):
  Calls Tryz.prog 43 #[.agg (fq A1 A2 A3 A4 c1 c2 c3 c4 f)] w fun e w'=>e=.returned (.int .i64 (Pl.fieldE f))∧Below w.heap.size w w':=by
 have hE:=Lib.hid (Pl.fieldE_5 h1 h2)
 have h1':f.st.length<=12∧f.li.length<=10∧f.pa.length<=40:=by unfold Pl.Fld.N1 at h1;omega
 have h2':f.st.length<2∨(2<=f.st.length∧f.li.length<1):=by unfold Pl.Fld.N2 at h2;omega
 obtain⟨k1,k2,k3⟩:=h1'
 clear h1 h2
 rcases h2' with h|⟨h,h'⟩
 all_goals
  go_enter Tryz.func43,Tryz.ntmps43
  go_wp2
  go_ret
  exact⟨ret_int (by rw[hE.out]),by go_grown⟩
set_option maxHeartbeats 4000000 in
theorem checkFieldB_vars (w:World)(hf:FldS w w.heap.size A1 A2 A3 A4 f)(hm:Small f)(_hc:Caps c1 c2 c3 c4 f)(h1:f.N1)(h2:f.N2)(h3:Pl.vars f.va≠0):
  Calls Tryz.prog 43 #[.agg (fq A1 A2 A3 A4 c1 c2 c3 c4 f)] w fun e w'=>e=.returned (.int .i64 (Pl.fieldE f))∧Below w.heap.size w w':=by
 have hE:=Lib.hid (Pl.fieldE_v h1 h2 h3)
 have h1':f.st.length<=12∧f.li.length<=10∧f.pa.length<=40:=by unfold Pl.Fld.N1 at h1;omega
 have h2':2<=f.st.length∧1<=f.li.length:=by unfold Pl.Fld.N2 at h2;omega
 obtain⟨k1,k2,k3⟩:=h1'
 obtain⟨k4,k5⟩:=h2'
 obtain⟨V,hV⟩: ∃V,Pl.vars f.va=V:=⟨_,rfl⟩
 have vb:=fun W (a:Vars W W.heap.size A4 f.va)=>vars_b A4 c4 f.va W a (by have:=hm.va;unfold maxLen;omega)
 rw[hV]at vb h3 hE
 have q0:(V !=0)=true:=by simpa using h3
 clear h1 h2 hV h3
 have kb:=heap_alloc_new w (.cells (fq A1 A2 A3 A4 c1 c2 c3 c4 f) 28)
 go_enter Tryz.func43,Tryz.ntmps43
 go_wp2_with (go_at_call 112;refine(vb _ (hf.va.up (by go_grown))).mono ?_;rintro e w1 ⟨rfl,hx⟩;obtain⟨kb,hckb,hfkb,hltkb⟩:=kB hx kb;have hall:Below w.heap.size w w1:=Below.trans (by go_grown) (hx.mono (by go_size));have hsz:w.heap.size<=w1.heap.size:=hall.size;clear hx)
 go_ret
 exact⟨ret_int (by rw[hE.out]),by go_grown⟩
theorem checkFieldB_h (E:Int)(w:World)(hE:Hid (Pl.fieldE f=E))(hf:FldS w w.heap.size A1 A2 A3 A4 f)(hm:Small f)(hc:Caps c1 c2 c3 c4 f):
  Calls Tryz.prog 43 #[.agg (fq A1 A2 A3 A4 c1 c2 c3 c4 f)] w fun e w'=>e=.returned (.int .i64 E)∧Below w.heap.size w w':=by
 rw[<-hE.out]
 by_cases h1:f.N1
 ·by_cases h2:f.N2
  ·by_cases h3:Pl.vars f.va=0
   ·exact checkFieldB_rest A1 A2 A3 A4 c1 c2 c3 c4 f w hf hm hc h1 h2 h3
   ·exact checkFieldB_vars A1 A2 A3 A4 c1 c2 c3 c4 f w hf hm hc h1 h2 h3
  ·exact checkFieldB_few A1 A2 A3 A4 c1 c2 c3 c4 f w hf hm hc h1 h2
 ·exact checkFieldB_big A1 A2 A3 A4 c1 c2 c3 c4 f w hf hm hc h1
end Go.Proofs.YtgbpekeoegfjpaaGreatDoor
namespace Go.Proofs.YtgbpekeoegfjpaaGreatDoor
namespace Pl
instance : Inhabited Bd := ⟨⟨0, 0, 0, 0⟩⟩
/-! ### The way back -/
theorem callE_three {f:Fld}{c:Cal}(h:callE f c=0)(hk:c.kind=3):c.crs.ok=true∧comE f.va [c.crs] (runC f.st c)=0∧(com f.va [c.crs] (runC f.st c)).2.2=true:=by
 unfold callE at h
 split at h
 ·cases h
 rename_i ht
 rw[if_neg (by simpa using hk)]at h
 split at h
 ·cases h
 rename_i h1
 split at h
 ·exact absurd h ‹_›
 rename_i h2
 split at h
 ·rename_i h3
  exact⟨by simpa using h1,by simpa using h2,h3⟩
 ·cases h
theorem callE_tab {f:Fld}{c:Cal}(h:callE f c=0):c.tab f.st.length f.li.length:=by
 unfold callE at h
 split at h
 ·cases h
 ·rename_i h1;exact Classical.not_not.1 h1
end Pl
namespace Pl
def cornB (S L:Nat)(l s:Int):Bool:=inB l 0 ((L:Int)-1)&&inB s 0 ((S:Int)-1)
def othB (L:Nat)(c:Cal):Bool:=decide (c.lim<c.oth)&&decide (c.oth<(L:Int))
def tabR (S L:Nat)(c:Cal):Bool:=
 cornB S L c.lim c.fr&&(inB c.er 0 100000&&
 (if c.kind=1 then c.crs.isZ&&(c.oth==0&&(c.till==0&&inB c.size 0 100000))
 else if c.kind=2 then c.crs.isZ&&(othB L c&&(c.till==0&&inB c.size 0 100000))
 else if c.kind=3 then c.oth==0&&(c.size==0&&(c.er==0&&(inB c.till 0 ((S:Int)-1)&&c.till !=c.fr)))
 else if c.kind=4 then c.crs.isZ&&(othB L c&&(c.size==0&&(c.er==0&&(decide (c.fr<c.till)&&decide (c.till<(S:Int))))))
 else if c.kind=5 then c.crs.isZ&&(c.oth==0&&(inB c.till 0 ((S:Int)-1)&&(c.till !=c.fr&&inB c.size (-100000) 100000)))
 else false))
theorem tabR_iff {S L:Nat}{c:Cal}:tabR S L c=true↔c.tab S L:=by
 unfold tabR Cal.tab cornB othB inB inN
 by_cases h1:c.kind=1
 ·simp[h1,Crs.isZ_iff]
  grind
 rw[if_neg h1]
 by_cases h2:c.kind=2
 ·simp[h2,Crs.isZ_iff]
  grind
 rw[if_neg h2]
 by_cases h3:c.kind=3
 ·simp[h3]
  grind
 rw[if_neg h3]
 by_cases h4:c.kind=4
 ·simp[h4,Crs.isZ_iff]
  grind
 rw[if_neg h4]
 by_cases h5:c.kind=5
 ·simp[h5,Crs.isZ_iff]
  grind
 ·rw[if_neg h5]
  simp[h1,h2,h3,h4,h5]
def checkR (f:Fld)(c:Cal):Int:=
 if tabR f.st.length f.li.length c=false then 1
 else if c.kind≠3 then 0
 else if c.crs.ok=false then 1
 else if comE f.va [c.crs] (runC f.st c)≠0 then comE f.va [c.crs] (runC f.st c)
 else if (com f.va [c.crs] (runC f.st c)).2.2=true then 0 else 5
theorem checkR_eq (f:Fld)(c:Cal):checkR f c=callE f c:=by
 unfold checkR callE
 by_cases ht:c.tab f.st.length f.li.length
 ·have:tabR f.st.length f.li.length c=true:=tabR_iff.2 ht
  simp[this,ht]
 ·have:tabR f.st.length f.li.length c=false:=by
   cases h:tabR f.st.length f.li.length c with
   |false=>rfl
   |true=>exact absurd (tabR_iff.1 h) ht
  simp[this,ht]
end Pl
open Go.RowKit
theorem eq_crsZ (c:Pl.Cal)(W:World):(Op.equalIn 10000 46 (.agg (cq c.crs)) (.agg z6)).run Tryz.prog W=.ok c.crs.isZ W:=by
 unfold Pl.Crs.isZ
 simp[go_sem]
 repeat' split
 all_goals simp_all
theorem ld_crsC {w:World}{g:Nat}{a0 a1 a2 a3 a4 a5 a6 b n l y x s:Value}(hg:w.heap[g]?=some (.cells #[a0,a1,a2,a3,a4,a5,a6,b,n,l,y,x,s] 48 (0,0))):
  (loadVar 46 ⟨g,7,none⟩).run Tryz.prog w=.ok (.agg #[b,n,l,y,x,s]) w:=
 run_loadVar_mid w g 7 _ _ _ (mid_of (n:=6) hg rfl) Tryz.underlying46 rfl (by kernel_rfl)
end Go.Proofs.YtgbpekeoegfjpaaGreatDoor
namespace Go.Proofs.YtgbpekeoegfjpaaGreatDoor
namespace Pl
/-! ### Fields moved -/
theorem tab_till {S L:Nat}{c:Cal}(h:c.tab S L)(hk:c.kind=3):inN c.till S:=by
 obtain⟨_,_,h⟩:=h
 rcases h with h|h|h|h|h
 ·omega
 ·omega
 ·exact h.2.2.2.2.1
 ·omega
 ·omega
end Pl
end Go.Proofs.YtgbpekeoegfjpaaGreatDoor
set_option maxRecDepth 100000
namespace Go.Proofs.YtgbpekeoegfjpaaGreatDoor
open Go.RowKit
variable (A1 A2 A3 A4 : Option Addr) (c1 c2 c3 c4 : Nat) (f : Pl.Fld)
attribute [-go_sem] run_equalIn_agg storeVar loadVar
attribute [local go_sem] lv_int lv_bool lv_u8 lv_string lv_strings lv_stas lv_pars lv_vars
set_option maxHeartbeats 4000000 in
theorem tbp_0 (c:Pl.Cal)(w:World)(hS:f.st.length<=100000)(hL:f.li.length<=100000)(h0:Pl.cornB f.st.length f.li.length c.lim c.fr=false):
  Calls Tryz.prog 185 #[.agg (fq A1 A2 A3 A4 c1 c2 c3 c4 f),.agg (kq c)] w fun e w'=>e=.returned (.bool false)∧Below w.heap.size w w':=by
 have hEq: ∀W,(Op.equalIn 10000 46 (.agg (cq c.crs)) (.agg z6)).run Tryz.prog W=.ok c.crs.isZ W:=fun W=>(eq_crsZ c W)
 have ic:=fun W=>isCorner_b A1 A2 A3 A4 c1 c2 c3 c4 f c.lim c.fr W hL hS
 rw[show(Pl.inB c.lim 0 ((f.li.length:Int)-1)&&Pl.inB c.fr 0 ((f.st.length:Int)-1))=false from h0]at ic
 have kf:=(heap_alloc_new w (.cells (fq A1 A2 A3 A4 c1 c2 c3 c4 f) 28))
 have kc:=(heap_alloc_new (w.alloc (.cells (fq A1 A2 A3 A4 c1 c2 c3 c4 f) 28)) (.cells (kq c) 48))
 rw[World.size_alloc]at kc
 have kf:=(Below.heap_alloc _ (.cells (kq c) 48) _ (lO kf)).trans kf
 have l01:=ld_row kf Tryz.underlying28 rfl info_fld
 have l02:=ld_row kc Tryz.underlying48 rfl info_cal
 have hall:Below w.heap.size w ((w.alloc (.cells (fq A1 A2 A3 A4 c1 c2 c3 c4 f) 28)).alloc (.cells (kq c) 48)):=((Below.refl _ w).alloc (Nat.le_refl _) _).alloc (by simp) _
 have l03:=ld_crsC kc
 clear h0
 rcases(show(¬c.lim<c.oth)∨(c.lim<c.oth∧ ¬c.oth<(f.li.length:Int))∨(c.lim<c.oth∧c.oth<(f.li.length:Int)) by omega)with x1|⟨x1,x2⟩|⟨x1,x2⟩
 all_goals
  go_enter Tryz.func185,Tryz.ntmps185
  go_wp2_with fail
  refine(ic _).mono ?_
  rintro e w1 ⟨rfl,hx⟩
  clear l03
  replace kf:=kE hx kf;replace kc:=kE hx kc;replace hall:Below w.heap.size w _:=hall.trans (hx.mono hall.size);(try clear l01 l02);have l01:=ld_row kf Tryz.underlying28 rfl info_fld;have l02:=ld_row kc Tryz.underlying48 rfl info_cal;(try clear hcf hff hcc hfc);obtain⟨hcf,hff⟩:=blk_cells kf;obtain⟨hcc,hfc⟩:=blk_cells kc;clear hx
  have l03:=ld_crsC kc
  go_wp2_with fail
  go_ret
  exact⟨rfl,hall⟩
set_option maxHeartbeats 4000000 in
theorem tbp_1 (c:Pl.Cal)(w:World)(hS:f.st.length<=100000)(hL:f.li.length<=100000)(h0:Pl.cornB f.st.length f.li.length c.lim c.fr=true)(h1:Pl.inB c.er 0 100000=false):
  Calls Tryz.prog 185 #[.agg (fq A1 A2 A3 A4 c1 c2 c3 c4 f),.agg (kq c)] w fun e w'=>e=.returned (.bool false)∧Below w.heap.size w w':=by
 have hEq: ∀W,(Op.equalIn 10000 46 (.agg (cq c.crs)) (.agg z6)).run Tryz.prog W=.ok c.crs.isZ W:=fun W=>(eq_crsZ c W)
 have ic:=fun W=>isCorner_b A1 A2 A3 A4 c1 c2 c3 c4 f c.lim c.fr W hL hS
 rw[show(Pl.inB c.lim 0 ((f.li.length:Int)-1)&&Pl.inB c.fr 0 ((f.st.length:Int)-1))=true from h0]at ic
 have wi1:=fun W=>within_b c.er 0 100000 W
 rw[h1]at wi1
 have kf:=(heap_alloc_new w (.cells (fq A1 A2 A3 A4 c1 c2 c3 c4 f) 28))
 have kc:=(heap_alloc_new (w.alloc (.cells (fq A1 A2 A3 A4 c1 c2 c3 c4 f) 28)) (.cells (kq c) 48))
 rw[World.size_alloc]at kc
 have kf:=(Below.heap_alloc _ (.cells (kq c) 48) _ (lO kf)).trans kf
 have l01:=ld_row kf Tryz.underlying28 rfl info_fld
 have l02:=ld_row kc Tryz.underlying48 rfl info_cal
 have hall:Below w.heap.size w ((w.alloc (.cells (fq A1 A2 A3 A4 c1 c2 c3 c4 f) 28)).alloc (.cells (kq c) 48)):=((Below.refl _ w).alloc (Nat.le_refl _) _).alloc (by simp) _
 have l03:=ld_crsC kc
 clear h0 h1
 rcases(show(¬c.lim<c.oth)∨(c.lim<c.oth∧ ¬c.oth<(f.li.length:Int))∨(c.lim<c.oth∧c.oth<(f.li.length:Int)) by omega)with x1|⟨x1,x2⟩|⟨x1,x2⟩
 all_goals
  go_enter Tryz.func185,Tryz.ntmps185
  go_wp2_with fail
  refine(ic _).mono ?_
  rintro e w1 ⟨rfl,hx⟩
  clear l03
  replace kf:=kE hx kf;replace kc:=kE hx kc;replace hall:Below w.heap.size w _:=hall.trans (hx.mono hall.size);(try clear l01 l02);have l01:=ld_row kf Tryz.underlying28 rfl info_fld;have l02:=ld_row kc Tryz.underlying48 rfl info_cal;(try clear hcf hff hcc hfc);obtain⟨hcf,hff⟩:=blk_cells kf;obtain⟨hcc,hfc⟩:=blk_cells kc;clear hx
  have l03:=ld_crsC kc
  go_wp2_with fail
  refine(wi1 _).mono ?_
  rintro e w2 ⟨rfl,rfl⟩
  go_wp2_with fail
  go_ret
  exact⟨rfl,hall⟩
set_option maxHeartbeats 4000000 in
theorem tb0_2 (c:Pl.Cal)(w:World)(hS:f.st.length<=100000)(hL:f.li.length<=100000)(h0:Pl.cornB f.st.length f.li.length c.lim c.fr=true)(h1:Pl.inB c.er 0 100000=true)(k1:c.kind≠1)(k2:c.kind≠2)(k3:c.kind≠3)(k4:c.kind≠4)(k5:c.kind≠5):
  Calls Tryz.prog 185 #[.agg (fq A1 A2 A3 A4 c1 c2 c3 c4 f),.agg (kq c)] w fun e w'=>e=.returned (.bool false)∧Below w.heap.size w w':=by
 have hEq: ∀W,(Op.equalIn 10000 46 (.agg (cq c.crs)) (.agg z6)).run Tryz.prog W=.ok c.crs.isZ W:=fun W=>(eq_crsZ c W)
 have ic:=fun W=>isCorner_b A1 A2 A3 A4 c1 c2 c3 c4 f c.lim c.fr W hL hS
 rw[show(Pl.inB c.lim 0 ((f.li.length:Int)-1)&&Pl.inB c.fr 0 ((f.st.length:Int)-1))=true from h0]at ic
 have wi1:=fun W=>within_b c.er 0 100000 W
 rw[h1]at wi1
 have m1:((c.kind:Int)==1)=false:=by rw[beq_eq_false_iff_ne];omega
 have m2:((c.kind:Int)==2)=false:=by rw[beq_eq_false_iff_ne];omega
 have m3:((c.kind:Int)==3)=false:=by rw[beq_eq_false_iff_ne];omega
 have m4:((c.kind:Int)==4)=false:=by rw[beq_eq_false_iff_ne];omega
 have m5:((c.kind:Int)==5)=false:=by rw[beq_eq_false_iff_ne];omega
 clear k1 k2 k3 k4 k5
 have kf:=(heap_alloc_new w (.cells (fq A1 A2 A3 A4 c1 c2 c3 c4 f) 28))
 have kc:=(heap_alloc_new (w.alloc (.cells (fq A1 A2 A3 A4 c1 c2 c3 c4 f) 28)) (.cells (kq c) 48))
 rw[World.size_alloc]at kc
 have kf:=(Below.heap_alloc _ (.cells (kq c) 48) _ (lO kf)).trans kf
 have l01:=ld_row kf Tryz.underlying28 rfl info_fld
 have l02:=ld_row kc Tryz.underlying48 rfl info_cal
 have hall:Below w.heap.size w ((w.alloc (.cells (fq A1 A2 A3 A4 c1 c2 c3 c4 f) 28)).alloc (.cells (kq c) 48)):=((Below.refl _ w).alloc (Nat.le_refl _) _).alloc (by simp) _
 have l03:=ld_crsC kc
 clear h0 h1
 rcases(show(¬c.lim<c.oth)∨(c.lim<c.oth∧ ¬c.oth<(f.li.length:Int))∨(c.lim<c.oth∧c.oth<(f.li.length:Int)) by omega)with x1|⟨x1,x2⟩|⟨x1,x2⟩
 all_goals
  go_enter Tryz.func185,Tryz.ntmps185
  go_wp2_with fail
  refine(ic _).mono ?_
  rintro e w1 ⟨rfl,hx⟩
  clear l03
  replace kf:=kE hx kf;replace kc:=kE hx kc;replace hall:Below w.heap.size w _:=hall.trans (hx.mono hall.size);(try clear l01 l02);have l01:=ld_row kf Tryz.underlying28 rfl info_fld;have l02:=ld_row kc Tryz.underlying48 rfl info_cal;(try clear hcf hff hcc hfc);obtain⟨hcf,hff⟩:=blk_cells kf;obtain⟨hcc,hfc⟩:=blk_cells kc;clear hx
  have l03:=ld_crsC kc
  go_wp2_with fail
  refine(wi1 _).mono ?_
  rintro e w2 ⟨rfl,rfl⟩
  go_wp2_with fail
  go_ret
  exact⟨rfl,hall⟩
set_option maxHeartbeats 16000000 in
theorem tk1 (c:Pl.Cal)(w:World)(hS:f.st.length<=100000)(hL:f.li.length<=100000)(h0:Pl.cornB f.st.length f.li.length c.lim c.fr=true)(h1:Pl.inB c.er 0 100000=true):
  Calls Tryz.prog 185 #[.agg (fq A1 A2 A3 A4 c1 c2 c3 c4 f),.agg (kkq 1 c)] w fun e w'=>e=.returned (.bool (c.crs.isZ&&((c.oth==0)&&((c.till==0)&&Pl.inB c.size 0 100000))))∧Below w.heap.size w w':=by
 obtain⟨R,hR⟩: ∃R,(c.crs.isZ&&((c.oth==0)&&((c.till==0)&&Pl.inB c.size 0 100000)))=R:=⟨_,rfl⟩
 rw[hR]
 have hEq:=fun W=>eq_crsZ c W
 have ic:=fun W=>isCorner_b A1 A2 A3 A4 c1 c2 c3 c4 f c.lim c.fr W hL hS
 rw[show(Pl.inB c.lim 0 ((f.li.length:Int)-1)&&Pl.inB c.fr 0 ((f.st.length:Int)-1))=true from h0]at ic
 have wi1:=fun W=>within_b c.er 0 100000 W
 rw[h1]at wi1
 have wi5:=fun W=>within_b c.size 0 100000 W
 have kf:=(heap_alloc_new w (.cells (fq A1 A2 A3 A4 c1 c2 c3 c4 f) 28))
 have kc:=(heap_alloc_new (w.alloc (.cells (fq A1 A2 A3 A4 c1 c2 c3 c4 f) 28)) (.cells (kkq 1 c) 48))
 rw[World.size_alloc]at kc
 have kf:=(Below.heap_alloc _ (.cells (kkq 1 c) 48) _ (lO kf)).trans kf
 have l01:=ld_row kf Tryz.underlying28 rfl info_fld
 have l02:=ld_row kc Tryz.underlying48 rfl info_cal
 have hall:Below w.heap.size w ((w.alloc (.cells (fq A1 A2 A3 A4 c1 c2 c3 c4 f) 28)).alloc (.cells (kkq 1 c) 48)):=((Below.refl _ w).alloc (Nat.le_refl _) _).alloc (by simp) _
 have l03:=ld_crsC kc
 clear h0 h1
 have HR:=Lib.hid hR
 clear hR
 rcases(show(¬c.lim<c.oth)∨(c.lim<c.oth∧ ¬c.oth<(f.li.length:Int))∨(c.lim<c.oth∧c.oth<(f.li.length:Int)) by omega)with x1|⟨x1,x2⟩|⟨x1,x2⟩
 all_goals (
  go_enter Tryz.func185,Tryz.ntmps185
  go_wp2_with fail
  refine(ic _).mono ?_
  rintro e w1 ⟨rfl,hx1⟩
  clear l03
  replace kf:=kE hx1 kf;replace kc:=kE hx1 kc;replace hall:Below w.heap.size w _:=hall.trans (hx1.mono hall.size);clear l01 l02;have l01:=ld_row kf Tryz.underlying28 rfl info_fld;have l02:=ld_row kc Tryz.underlying48 rfl info_cal;obtain⟨hcf,hff⟩:=blk_cells kf;obtain⟨hcc,hfc⟩:=blk_cells kc;clear hx1
  have l03:=ld_crsC kc
  go_wp2_with fail
  refine(wi1 _).mono ?_
  rintro e w2 ⟨rfl,rfl⟩
  cases h2:c.crs.isZ with
  |false=>
   have H2:=Lib.hid h2
   rw[h2]at hEq
   clear h2
   go_wp2_with fail
   go_ret
   exact⟨ret_bool (by rw[<-HR.out,H2.out];rfl),hall⟩
  | true=>
   have H2:=Lib.hid h2
   rw[h2]at hEq
   clear h2
   cases h3:(c.oth==0)with
   |false=>
    have H3:=Lib.hid h3
    go_wp2_with fail
    go_ret
    exact⟨ret_bool (by rw[<-HR.out,H2.out,H3.out];rfl),hall⟩
   | true=>
    have H3:=Lib.hid h3
    cases h4:(c.till==0)with
    |false=>
     have H4:=Lib.hid h4
     go_wp2_with fail
     go_ret
     exact⟨ret_bool (by rw[<-HR.out,H2.out,H3.out,H4.out];rfl),hall⟩
    | true=>
     have H4:=Lib.hid h4
     cases h5:Pl.inB c.size 0 100000 with
     |false=>
      have H5:=Lib.hid h5
      rw[h5]at wi5
      clear h5
      go_wp2_with fail
      refine(wi5 _).mono ?_
      rintro e w6 ⟨rfl,rfl⟩
      go_wp2_with fail
      go_ret
      exact⟨ret_bool (by rw[<-HR.out,H2.out,H3.out,H4.out,H5.out];rfl),hall⟩
     |true=>
      have H5:=Lib.hid h5
      rw[h5]at wi5
      clear h5
      go_wp2_with fail
      refine(wi5 _).mono ?_
      rintro e w6 ⟨rfl,rfl⟩
      go_wp2_with fail
      go_ret
      exact⟨ret_bool (by rw[<-HR.out,H2.out,H3.out,H4.out,H5.out];rfl),hall⟩)
set_option maxHeartbeats 16000000 in
theorem tk2 (c:Pl.Cal)(w:World)(hS:f.st.length<=100000)(hL:f.li.length<=100000)(h0:Pl.cornB f.st.length f.li.length c.lim c.fr=true)(h1:Pl.inB c.er 0 100000=true):
  Calls Tryz.prog 185 #[.agg (fq A1 A2 A3 A4 c1 c2 c3 c4 f),.agg (kkq 2 c)] w fun e w'=>e=.returned (.bool (c.crs.isZ&&(Pl.othB f.li.length c&&((c.till==0)&&Pl.inB c.size 0 100000))))∧Below w.heap.size w w':=by
 obtain⟨R,hR⟩: ∃R,(c.crs.isZ&&(Pl.othB f.li.length c&&((c.till==0)&&Pl.inB c.size 0 100000)))=R:=⟨_,rfl⟩
 rw[hR]
 have hEq:=fun W=>eq_crsZ c W
 have ic:=fun W=>isCorner_b A1 A2 A3 A4 c1 c2 c3 c4 f c.lim c.fr W hL hS
 rw[show(Pl.inB c.lim 0 ((f.li.length:Int)-1)&&Pl.inB c.fr 0 ((f.st.length:Int)-1))=true from h0]at ic
 have wi1:=fun W=>within_b c.er 0 100000 W
 rw[h1]at wi1
 have wi5:=fun W=>within_b c.size 0 100000 W
 have kf:=(heap_alloc_new w (.cells (fq A1 A2 A3 A4 c1 c2 c3 c4 f) 28))
 have kc:=(heap_alloc_new (w.alloc (.cells (fq A1 A2 A3 A4 c1 c2 c3 c4 f) 28)) (.cells (kkq 2 c) 48))
 rw[World.size_alloc]at kc
 have kf:=(Below.heap_alloc _ (.cells (kkq 2 c) 48) _ (lO kf)).trans kf
 have l01:=ld_row kf Tryz.underlying28 rfl info_fld
 have l02:=ld_row kc Tryz.underlying48 rfl info_cal
 have hall:Below w.heap.size w ((w.alloc (.cells (fq A1 A2 A3 A4 c1 c2 c3 c4 f) 28)).alloc (.cells (kkq 2 c) 48)):=((Below.refl _ w).alloc (Nat.le_refl _) _).alloc (by simp) _
 have l03:=ld_crsC kc
 clear h0 h1
 obtain⟨ob,hob⟩: ∃ob,Pl.othB f.li.length c=ob:=⟨_,rfl⟩
 have hx3:(ob=false∧ ¬c.lim<c.oth)∨(ob=false∧c.lim<c.oth∧ ¬c.oth<(f.li.length:Int))∨(ob=true∧c.lim<c.oth∧c.oth<(f.li.length:Int)):=by
  rw[<-hob];unfold Pl.othB;by_cases y1:c.lim<c.oth<;>by_cases y2:c.oth<(f.li.length:Int)<;>simp[y1,y2]
 rw[hob]at hR
 clear hob
 have HR:=Lib.hid hR
 clear hR
 rcases hx3 with ⟨hx,x1⟩|⟨hx,x1,x2⟩|⟨hx,x1,x2⟩
 all_goals (
  go_enter Tryz.func185,Tryz.ntmps185
  go_wp2_with fail
  refine(ic _).mono ?_
  rintro e w1 ⟨rfl,hx1⟩
  clear l03
  replace kf:=kE hx1 kf;replace kc:=kE hx1 kc;replace hall:Below w.heap.size w _:=hall.trans (hx1.mono hall.size);clear l01 l02;have l01:=ld_row kf Tryz.underlying28 rfl info_fld;have l02:=ld_row kc Tryz.underlying48 rfl info_cal;obtain⟨hcf,hff⟩:=blk_cells kf;obtain⟨hcc,hfc⟩:=blk_cells kc;clear hx1
  have l03:=ld_crsC kc
  go_wp2_with fail
  refine(wi1 _).mono ?_
  rintro e w2 ⟨rfl,rfl⟩
  cases h2:c.crs.isZ with
  |false=>
   have H2:=Lib.hid h2
   rw[h2]at hEq
   clear h2
   go_wp2_with fail
   go_ret
   exact⟨ret_bool (by rw[<-HR.out,H2.out];rfl),hall⟩
  | true=>
   have H2:=Lib.hid h2
   rw[h2]at hEq
   clear h2
   cases ob with
   | false=>
    cases hx
    all_goals (
     go_wp2_with fail
     go_ret
     exact⟨ret_bool (by rw[<-HR.out,H2.out];rfl),hall⟩)
   | true=>
    cases hx
    all_goals (
     cases h4:(c.till==0)with
     |false=>
      have H4:=Lib.hid h4
      go_wp2_with fail
      go_ret
      exact⟨ret_bool (by rw[<-HR.out,H2.out,H4.out];rfl),hall⟩
     | true=>
      have H4:=Lib.hid h4
      cases h5:Pl.inB c.size 0 100000 with
      |false=>
       have H5:=Lib.hid h5
       rw[h5]at wi5
       clear h5
       go_wp2_with fail
       refine(wi5 _).mono ?_
       rintro e w6 ⟨rfl,rfl⟩
       go_wp2_with fail
       go_ret
       exact⟨ret_bool (by rw[<-HR.out,H2.out,H4.out,H5.out];rfl),hall⟩
      |true=>
       have H5:=Lib.hid h5
       rw[h5]at wi5
       clear h5
       go_wp2_with fail
       refine(wi5 _).mono ?_
       rintro e w6 ⟨rfl,rfl⟩
       go_wp2_with fail
       go_ret
       exact⟨ret_bool (by rw[<-HR.out,H2.out,H4.out,H5.out];rfl),hall⟩))
set_option maxHeartbeats 16000000 in
theorem tk3 (c:Pl.Cal)(w:World)(hS:f.st.length<=100000)(hL:f.li.length<=100000)(h0:Pl.cornB f.st.length f.li.length c.lim c.fr=true)(h1:Pl.inB c.er 0 100000=true):
  Calls Tryz.prog 185 #[.agg (fq A1 A2 A3 A4 c1 c2 c3 c4 f),.agg (kkq 3 c)] w fun e w'=>e=.returned (.bool ((c.oth==0)&&((c.size==0)&&((c.er==0)&&(Pl.inB c.till 0 ((f.st.length:Int)-1)&&(c.till !=c.fr))))))∧Below w.heap.size w w':=by
 obtain⟨R,hR⟩: ∃R,((c.oth==0)&&((c.size==0)&&((c.er==0)&&(Pl.inB c.till 0 ((f.st.length:Int)-1)&&(c.till !=c.fr)))))=R:=⟨_,rfl⟩
 rw[hR]
 have hEq:=fun W=>eq_crsZ c W
 have ic:=fun W=>isCorner_b A1 A2 A3 A4 c1 c2 c3 c4 f c.lim c.fr W hL hS
 rw[show(Pl.inB c.lim 0 ((f.li.length:Int)-1)&&Pl.inB c.fr 0 ((f.st.length:Int)-1))=true from h0]at ic
 have wi1:=fun W=>within_b c.er 0 100000 W
 rw[h1]at wi1
 have wi5:=fun W=>within_b c.till 0 ((f.st.length:Int)-1) W
 have kf:=(heap_alloc_new w (.cells (fq A1 A2 A3 A4 c1 c2 c3 c4 f) 28))
 have kc:=(heap_alloc_new (w.alloc (.cells (fq A1 A2 A3 A4 c1 c2 c3 c4 f) 28)) (.cells (kkq 3 c) 48))
 rw[World.size_alloc]at kc
 have kf:=(Below.heap_alloc _ (.cells (kkq 3 c) 48) _ (lO kf)).trans kf
 have l01:=ld_row kf Tryz.underlying28 rfl info_fld
 have l02:=ld_row kc Tryz.underlying48 rfl info_cal
 have hall:Below w.heap.size w ((w.alloc (.cells (fq A1 A2 A3 A4 c1 c2 c3 c4 f) 28)).alloc (.cells (kkq 3 c) 48)):=((Below.refl _ w).alloc (Nat.le_refl _) _).alloc (by simp) _
 have l03:=ld_crsC kc
 clear h0 h1
 have HR:=Lib.hid hR
 clear hR
 rcases(show(¬c.lim<c.oth)∨(c.lim<c.oth∧ ¬c.oth<(f.li.length:Int))∨(c.lim<c.oth∧c.oth<(f.li.length:Int)) by omega)with x1|⟨x1,x2⟩|⟨x1,x2⟩
 all_goals (
  go_enter Tryz.func185,Tryz.ntmps185
  go_wp2_with fail
  refine(ic _).mono ?_
  rintro e w1 ⟨rfl,hx1⟩
  clear l03
  replace kf:=kE hx1 kf;replace kc:=kE hx1 kc;replace hall:Below w.heap.size w _:=hall.trans (hx1.mono hall.size);clear l01 l02;have l01:=ld_row kf Tryz.underlying28 rfl info_fld;have l02:=ld_row kc Tryz.underlying48 rfl info_cal;obtain⟨hcf,hff⟩:=blk_cells kf;obtain⟨hcc,hfc⟩:=blk_cells kc;clear hx1
  have l03:=ld_crsC kc
  go_wp2_with fail
  refine(wi1 _).mono ?_
  rintro e w2 ⟨rfl,rfl⟩
  cases h2:(c.oth==0)with
  |false=>
   have H2:=Lib.hid h2
   go_wp2_with fail
   go_ret
   exact⟨ret_bool (by rw[<-HR.out,H2.out];rfl),hall⟩
  | true=>
   have H2:=Lib.hid h2
   cases h3:(c.size==0)with
   |false=>
    have H3:=Lib.hid h3
    go_wp2_with fail
    go_ret
    exact⟨ret_bool (by rw[<-HR.out,H2.out,H3.out];rfl),hall⟩
   | true=>
    have H3:=Lib.hid h3
    cases h4:(c.er==0)with
    |false=>
     have H4:=Lib.hid h4
     go_wp2_with fail
     go_ret
     exact⟨ret_bool (by rw[<-HR.out,H2.out,H3.out,H4.out];rfl),hall⟩
    | true=>
     have H4:=Lib.hid h4
     cases h5:Pl.inB c.till 0 ((f.st.length:Int)-1)with
     |false=>
      have H5:=Lib.hid h5
      rw[h5]at wi5
      clear h5
      go_wp2_with fail
      refine(wi5 _).mono ?_
      rintro e w6 ⟨rfl,rfl⟩
      go_wp2_with fail
      go_ret
      exact⟨ret_bool (by rw[<-HR.out,H2.out,H3.out,H4.out,H5.out];rfl),hall⟩
     | true=>
      have H5:=Lib.hid h5
      rw[h5]at wi5
      clear h5
      cases h6:(c.till !=c.fr)with
      |false=>
       have H6:=Lib.hid h6
       go_wp2_with fail
       refine(wi5 _).mono ?_
       rintro e w6 ⟨rfl,rfl⟩
       go_wp2_with fail
       go_ret
       exact⟨ret_bool (by rw[<-HR.out,H2.out,H3.out,H4.out,H5.out,H6.out];rfl),hall⟩
      |true=>
       have H6:=Lib.hid h6
       go_wp2_with fail
       refine(wi5 _).mono ?_
       rintro e w6 ⟨rfl,rfl⟩
       go_wp2_with fail
       go_ret
       exact⟨ret_bool (by rw[<-HR.out,H2.out,H3.out,H4.out,H5.out,H6.out];rfl),hall⟩)
set_option maxHeartbeats 16000000 in
theorem tk4 (c:Pl.Cal) (w:World) (hS:f.st.length<=100000) (hL:f.li.length<=100000) (h0:Pl.cornB f.st.length f.li.length c.lim c.fr=true) (h1:Pl.inB c.er 0 100000=true):
  Calls Tryz.prog 185 #[.agg (fq A1 A2 A3 A4 c1 c2 c3 c4 f),.agg (kkq 4 c)] w fun e w'=>e=.returned (.bool (c.crs.isZ&&(Pl.othB f.li.length c&&((c.size==0)&&((c.er==0)&&(decide (c.fr<c.till)&&decide (c.till<(f.st.length:Int))))))))∧Below w.heap.size w w':=by
 obtain⟨R,hR⟩: ∃R,(c.crs.isZ&&(Pl.othB f.li.length c&&((c.size==0)&&((c.er==0)&&(decide (c.fr<c.till)&&decide (c.till<(f.st.length:Int)))))))=R:=⟨_,rfl⟩
 rw[hR]
 have hEq:=fun W=>eq_crsZ c W
 have ic:=fun W=>isCorner_b A1 A2 A3 A4 c1 c2 c3 c4 f c.lim c.fr W hL hS
 rw[show(Pl.inB c.lim 0 ((f.li.length:Int)-1)&&Pl.inB c.fr 0 ((f.st.length:Int)-1))=true from h0]at ic
 have wi1:=fun W=>within_b c.er 0 100000 W
 rw[h1]at wi1
 have kf:=(heap_alloc_new w (.cells (fq A1 A2 A3 A4 c1 c2 c3 c4 f) 28))
 have kc:=(heap_alloc_new (w.alloc (.cells (fq A1 A2 A3 A4 c1 c2 c3 c4 f) 28)) (.cells (kkq 4 c) 48))
 rw[World.size_alloc]at kc
 have kf:=(Below.heap_alloc _ (.cells (kkq 4 c) 48) _ (lO kf)).trans kf
 have l01:=ld_row kf Tryz.underlying28 rfl info_fld
 have l02:=ld_row kc Tryz.underlying48 rfl info_cal
 have hall:Below w.heap.size w ((w.alloc (.cells (fq A1 A2 A3 A4 c1 c2 c3 c4 f) 28)).alloc (.cells (kkq 4 c) 48)):=((Below.refl _ w).alloc (Nat.le_refl _) _).alloc (by simp) _
 have l03:=ld_crsC kc
 clear h0 h1
 obtain⟨ob,hob⟩: ∃ob,Pl.othB f.li.length c=ob:=⟨_,rfl⟩
 have hx3:(ob=false∧ ¬c.lim<c.oth)∨(ob=false∧c.lim<c.oth∧ ¬c.oth<(f.li.length:Int))∨(ob=true∧c.lim<c.oth∧c.oth<(f.li.length:Int)):=by
  rw[<-hob];unfold Pl.othB;by_cases y1:c.lim<c.oth<;>by_cases y2:c.oth<(f.li.length:Int)<;>simp[y1,y2]
 rw[hob]at hR
 clear hob
 have HR:=Lib.hid hR
 clear hR
 rcases hx3 with ⟨hx,x1⟩|⟨hx,x1,x2⟩|⟨hx,x1,x2⟩
 all_goals (
  go_enter Tryz.func185,Tryz.ntmps185
  go_wp2_with fail
  refine(ic _).mono ?_
  rintro e w1 ⟨rfl,hx1⟩
  clear l03
  replace kf:=kE hx1 kf;replace kc:=kE hx1 kc;replace hall:Below w.heap.size w _:=hall.trans (hx1.mono hall.size);clear l01 l02;have l01:=ld_row kf Tryz.underlying28 rfl info_fld;have l02:=ld_row kc Tryz.underlying48 rfl info_cal;obtain⟨hcf,hff⟩:=blk_cells kf;obtain⟨hcc,hfc⟩:=blk_cells kc;clear hx1
  have l03:=ld_crsC kc
  go_wp2_with fail
  refine(wi1 _).mono ?_
  rintro e w2 ⟨rfl,rfl⟩
  cases h2:c.crs.isZ with
  |false=>
   have H2:=Lib.hid h2
   rw[h2]at hEq
   clear h2
   go_wp2_with fail
   go_ret
   exact⟨ret_bool (by rw[<-HR.out,H2.out];rfl),hall⟩
  | true=>
   have H2:=Lib.hid h2
   rw[h2]at hEq
   clear h2
   cases ob with
   | false=>
    cases hx
    all_goals (
     go_wp2_with fail
     go_ret
     exact⟨ret_bool (by rw[<-HR.out,H2.out];rfl),hall⟩)
   | true=>
    cases hx
    all_goals (
     cases h4:(c.size==0)with
     |false=>
      have H4:=Lib.hid h4
      go_wp2_with fail
      go_ret
      exact⟨ret_bool (by rw[<-HR.out,H2.out,H4.out];rfl),hall⟩
     | true=>
      have H4:=Lib.hid h4
      cases h5:(c.er==0)with
      |false=>
       have H5:=Lib.hid h5
       go_wp2_with fail
       go_ret
       exact⟨ret_bool (by rw[<-HR.out,H2.out,H4.out,H5.out];rfl),hall⟩
      | true=>
       have H5:=Lib.hid h5
       cases h6:decide (c.fr<c.till)with
       |false=>
        have H6:=Lib.hid h6
        have d6:=of_decide_eq_false h6
        clear h6
        go_wp2_with fail
        go_ret
        exact⟨ret_bool (by rw[<-HR.out,H2.out,H4.out,H5.out,H6.out];rfl),hall⟩
       | true=>
        have H6:=Lib.hid h6
        have d6:=of_decide_eq_true h6
        clear h6
        cases h7:decide (c.till<(f.st.length:Int))with
        |false=>
         have H7:=Lib.hid h7
         have d7:=of_decide_eq_false h7
         clear h7
         go_wp2_with fail
         go_ret
         exact⟨ret_bool (by rw[<-HR.out,H2.out,H4.out,H5.out,H6.out,H7.out];rfl),hall⟩
        |true=>
         have H7:=Lib.hid h7
         have d7:=of_decide_eq_true h7
         clear h7
         go_wp2_with fail
         go_ret
         exact⟨ret_bool (by rw[<-HR.out,H2.out,H4.out,H5.out,H6.out,H7.out];rfl),hall⟩))
set_option maxHeartbeats 16000000 in
theorem tk5 (c:Pl.Cal)(w:World)(hS:f.st.length<=100000)(hL:f.li.length<=100000)(h0:Pl.cornB f.st.length f.li.length c.lim c.fr=true)(h1:Pl.inB c.er 0 100000=true):
  Calls Tryz.prog 185 #[.agg (fq A1 A2 A3 A4 c1 c2 c3 c4 f),.agg (kkq 5 c)] w fun e w'=>e=.returned (.bool (c.crs.isZ&&((c.oth==0)&&(Pl.inB c.till 0 ((f.st.length:Int)-1)&&((c.till !=c.fr)&&Pl.inB c.size (-100000) 100000)))))∧Below w.heap.size w w':=by
 obtain⟨R,hR⟩: ∃R,(c.crs.isZ&&((c.oth==0)&&(Pl.inB c.till 0 ((f.st.length:Int)-1)&&((c.till !=c.fr)&&Pl.inB c.size (-100000) 100000))))=R:=⟨_,rfl⟩
 rw[hR]
 have hEq:=fun W=>eq_crsZ c W
 have ic:=fun W=>isCorner_b A1 A2 A3 A4 c1 c2 c3 c4 f c.lim c.fr W hL hS
 rw[show(Pl.inB c.lim 0 ((f.li.length:Int)-1)&&Pl.inB c.fr 0 ((f.st.length:Int)-1))=true from h0]at ic
 have wi1:=fun W=>within_b c.er 0 100000 W
 rw[h1]at wi1
 have wi4:=fun W=>within_b c.till 0 ((f.st.length:Int)-1) W
 have wi6:=fun W=>within_b c.size (-100000) 100000 W
 have kf:=(heap_alloc_new w (.cells (fq A1 A2 A3 A4 c1 c2 c3 c4 f) 28))
 have kc:=(heap_alloc_new (w.alloc (.cells (fq A1 A2 A3 A4 c1 c2 c3 c4 f) 28)) (.cells (kkq 5 c) 48))
 rw[World.size_alloc]at kc
 have kf:=(Below.heap_alloc _ (.cells (kkq 5 c) 48) _ (lO kf)).trans kf
 have l01:=ld_row kf Tryz.underlying28 rfl info_fld
 have l02:=ld_row kc Tryz.underlying48 rfl info_cal
 have hall:Below w.heap.size w ((w.alloc (.cells (fq A1 A2 A3 A4 c1 c2 c3 c4 f) 28)).alloc (.cells (kkq 5 c) 48)):=((Below.refl _ w).alloc (Nat.le_refl _) _).alloc (by simp) _
 have l03:=ld_crsC kc
 clear h0 h1
 have HR:=Lib.hid hR
 clear hR
 rcases(show(¬c.lim<c.oth)∨(c.lim<c.oth∧ ¬c.oth<(f.li.length:Int))∨(c.lim<c.oth∧c.oth<(f.li.length:Int)) by omega)with x1|⟨x1,x2⟩|⟨x1,x2⟩
 all_goals (
  go_enter Tryz.func185,Tryz.ntmps185
  go_wp2_with fail
  refine(ic _).mono ?_
  rintro e w1 ⟨rfl,hx1⟩
  clear l03
  replace kf:=kE hx1 kf;replace kc:=kE hx1 kc;replace hall:Below w.heap.size w _:=hall.trans (hx1.mono hall.size);clear l01 l02;have l01:=ld_row kf Tryz.underlying28 rfl info_fld;have l02:=ld_row kc Tryz.underlying48 rfl info_cal;obtain⟨hcf,hff⟩:=blk_cells kf;obtain⟨hcc,hfc⟩:=blk_cells kc;clear hx1
  have l03:=ld_crsC kc
  go_wp2_with fail
  refine(wi1 _).mono ?_
  rintro e w2 ⟨rfl,rfl⟩
  cases h2:c.crs.isZ with
  |false=>
   have H2:=Lib.hid h2
   rw[h2]at hEq
   clear h2
   go_wp2_with fail
   go_ret
   exact⟨ret_bool (by rw[<-HR.out,H2.out];rfl),hall⟩
  | true=>
   have H2:=Lib.hid h2
   rw[h2]at hEq
   clear h2
   cases h3:(c.oth==0)with
   |false=>
    have H3:=Lib.hid h3
    go_wp2_with fail
    go_ret
    exact⟨ret_bool (by rw[<-HR.out,H2.out,H3.out];rfl),hall⟩
   | true=>
    have H3:=Lib.hid h3
    cases h4:Pl.inB c.till 0 ((f.st.length:Int)-1)with
    |false=>
     have H4:=Lib.hid h4
     rw[h4]at wi4
     clear h4
     go_wp2_with fail
     refine(wi4 _).mono ?_
     rintro e w5 ⟨rfl,rfl⟩
     go_wp2_with fail
     go_ret
     exact⟨ret_bool (by rw[<-HR.out,H2.out,H3.out,H4.out];rfl),hall⟩
    | true=>
     have H4:=Lib.hid h4
     rw[h4]at wi4
     clear h4
     cases h5:(c.till !=c.fr)with
     |false=>
      have H5:=Lib.hid h5
      go_wp2_with fail
      refine(wi4 _).mono ?_
      rintro e w5 ⟨rfl,rfl⟩
      go_wp2_with fail
      go_ret
      exact⟨ret_bool (by rw[<-HR.out,H2.out,H3.out,H4.out,H5.out];rfl),hall⟩
     | true=>
      have H5:=Lib.hid h5
      cases h6:Pl.inB c.size (-100000) 100000 with
      |false=>
       have H6:=Lib.hid h6
       rw[h6]at wi6
       clear h6
       go_wp2_with fail
       refine(wi4 _).mono ?_
       rintro e w5 ⟨rfl,rfl⟩
       go_wp2_with fail
       refine(wi6 _).mono ?_
       rintro e w7 ⟨rfl,rfl⟩
       go_wp2_with fail
       go_ret
       exact⟨ret_bool (by rw[<-HR.out,H2.out,H3.out,H4.out,H5.out,H6.out];rfl),hall⟩
      |true=>
       have H6:=Lib.hid h6
       rw[h6]at wi6
       clear h6
       go_wp2_with fail
       refine(wi4 _).mono ?_
       rintro e w5 ⟨rfl,rfl⟩
       go_wp2_with fail
       refine(wi6 _).mono ?_
       rintro e w7 ⟨rfl,rfl⟩
       go_wp2_with fail
       go_ret
       exact⟨ret_bool (by rw[<-HR.out,H2.out,H3.out,H4.out,H5.out,H6.out];rfl),hall⟩)
theorem table_b (c:Pl.Cal)(w:World)(hS:f.st.length<=100000)(hL:f.li.length<=100000):
  Calls Tryz.prog 185 #[.agg (fq A1 A2 A3 A4 c1 c2 c3 c4 f),.agg (kq c)] w fun e w'=>e=.returned (.bool (Pl.tabR f.st.length f.li.length c))∧Below w.heap.size w w':=by
 unfold Pl.tabR
 cases h0:Pl.cornB f.st.length f.li.length c.lim c.fr with
 |false=>exact tbp_0 A1 A2 A3 A4 c1 c2 c3 c4 f c w hS hL h0
 |true=>
 cases h1:Pl.inB c.er 0 100000 with
 |false=>exact tbp_1 A1 A2 A3 A4 c1 c2 c3 c4 f c w hS hL h0 h1
 |true=>
 rw[Bool.true_and,Bool.true_and]
 by_cases k1:c.kind=1
 ·rw[if_pos k1,show(c.kind:Int)=1 by omega]
  exact tk1 A1 A2 A3 A4 c1 c2 c3 c4 f c w hS hL h0 h1
 rw[if_neg k1]
 by_cases k2:c.kind=2
 ·rw[if_pos k2,show(c.kind:Int)=2 by omega]
  exact tk2 A1 A2 A3 A4 c1 c2 c3 c4 f c w hS hL h0 h1
 rw[if_neg k2]
 by_cases k3:c.kind=3
 ·rw[if_pos k3,show(c.kind:Int)=3 by omega]
  exact tk3 A1 A2 A3 A4 c1 c2 c3 c4 f c w hS hL h0 h1
 rw[if_neg k3]
 by_cases k4:c.kind=4
 ·rw[if_pos k4,show(c.kind:Int)=4 by omega]
  exact tk4 A1 A2 A3 A4 c1 c2 c3 c4 f c w hS hL h0 h1
 rw[if_neg k4]
 by_cases k5:c.kind=5
 ·rw[if_pos k5,show(c.kind:Int)=5 by omega]
  exact tk5 A1 A2 A3 A4 c1 c2 c3 c4 f c w hS hL h0 h1
 rw[if_neg k5]
 exact tb0_2 A1 A2 A3 A4 c1 c2 c3 c4 f c w hS hL h0 h1 k1 k2 k3 k4 k5
end Go.Proofs.YtgbpekeoegfjpaaGreatDoor
set_option maxRecDepth 100000
namespace Go.Proofs.YtgbpekeoegfjpaaGreatDoor
open Go.RowKit
variable (A1 A2 A3 A4 : Option Addr) (c1 c2 c3 c4 : Nat) (f : Pl.Fld)
set_option maxHeartbeats 2000000 in
theorem run_b (k:Int)(c:Pl.Cal)(w:World)(hst:Stas w w.heap.size A1 f.st)(_hm:f.st.length<=100000)(h1:Pl.inN c.fr f.st.length)(h2:Pl.inN c.till f.st.length)(hx: ∀s∈f.st,0<=s.2∧s.2<=100000):
  Calls Tryz.prog 140 #[.agg (fq A1 A2 A3 A4 c1 c2 c3 c4 f),.agg (kkq k c)] w fun e w'=>e=.returned (.int .i64 (Pl.runC f.st c))∧Below w.heap.size w w':=by
 obtain⟨kk,l,o,fr,t,s,e,cr⟩:=c
 obtain⟨a0,a1⟩:=h1
 obtain⟨b0,b1⟩:=h2
 simp only at a0 a1 b0 b1
 obtain⟨fr,rfl⟩:=Int.eq_ofNat_of_zero_le a0
 obtain⟨t,rfl⟩:=Int.eq_ofNat_of_zero_le b0
 have a2:fr<f.st.length:=by omega
 have b2:t<f.st.length:=by omega
 obtain⟨b,off,hA,hb,_,q1⟩:=Stas.at2 hst a2
 obtain⟨b',off',hA',_,_,q2⟩:=Stas.at2 hst b2
 rw[hA]at hA'
 obtain⟨rfl,rfl⟩:b=b'∧off=off':=by simpa using hA'
 clear hA'
 have x1:=hx _ (List.getElem_mem a2)
 have x2:=hx _ (List.getElem_mem b2)
 have HV:Hid (f.st[t].2-f.st[fr].2=Pl.runC f.st ⟨kk,l,o,fr,t,s,e,cr⟩):=Lib.hid (by unfold Pl.runC;rw[xAt_get a2,xAt_get b2])
 obtain⟨u,hu⟩: ∃u,f.st[fr].2=u:=⟨_,rfl⟩
 obtain⟨v,hv⟩: ∃v,f.st[t].2=v:=⟨_,rfl⟩
 rw[hu]at q1 x1 HV
 rw[hv]at q2 x2 HV
 clear hu hv hx hst
 subst hA
 have kb:=heap_alloc_new w (.cells (fq (some ⟨b,off,none⟩) A2 A3 A4 c1 c2 c3 c4 f) 28)
 have kc:=heap_alloc_new (w.alloc (.cells (fq (some ⟨b,off,none⟩) A2 A3 A4 c1 c2 c3 c4 f) 28)) (.cells (kA13 k l o (fr:Int) (t:Int) s e cr.b cr.n cr.l cr.y cr.x cr.s) 48)
 rw[World.size_alloc]at kc
 have kb:=(Below.heap_alloc _ (.cells (kA13 k l o (fr:Int) (t:Int) s e cr.b cr.n cr.l cr.y cr.x cr.s) 48) _ (lO kb)).trans kb
 have hall:Below w.heap.size w ((w.alloc (.cells (fq (some ⟨b,off,none⟩) A2 A3 A4 c1 c2 c3 c4 f) 28)).alloc (.cells (kA13 k l o (fr:Int) (t:Int) s e cr.b cr.n cr.l cr.y cr.x cr.s) 48)):=((Below.refl _ w).alloc (Nat.le_refl _) _).alloc (by simp) _
 have e1:(0:Int)<=(fr:Int):=by omega
 have e2:(fr:Int)<(f.st.length:Int):=by omega
 have e3:(0:Int)<=(t:Int):=by omega
 have e4:(t:Int)<(f.st.length:Int):=by omega
 have e5:IntKind.i64.wrap (v-u)=v-u:=IntWalk.i64_in _ (by omega)
 go_enter Tryz.func140,Tryz.ntmps140
 go_wp2
 generalize (w.alloc (.cells (fq (some ⟨b,off,none⟩) A2 A3 A4 c1 c2 c3 c4 f) 28)).alloc (.cells (kA13 k l o (fr:Int) (t:Int) s e cr.b cr.n cr.l cr.y cr.x cr.s) 48)=W0 at*
 obtain⟨hcb,hfb⟩:=blk_cells kb
 obtain⟨hcc,hfc⟩:=blk_cells kc
 have s0:=hcb 0
 have s1:=hcc 3
 have s2:=hcc 4
 have s3:=(hall.cell (p:=⟨b,off+fr*2+1,none⟩) hb).trans q1
 have s4:=(hall.cell (p:=⟨b,off+t*2+1,none⟩) hb).trans q2
 clear hcb hcc q1 q2
 go_region_held3 (fun W=>W.cell? ⟨w.heap.size,0,none⟩=some (.slice (some ⟨b,off,none⟩) f.st.length c1)∧W.cell? ⟨w.heap.size+1,3,none⟩=some (.int .i64 (fr:Int))∧W.cell? ⟨w.heap.size+1,4,none⟩=some (.int .i64 (t:Int))∧W.cell? ⟨b,off+fr*2+1,none⟩=some (.int .i64 u)∧W.cell? ⟨b,off+t*2+1,none⟩=some (.int .i64 v)) (exact⟨s0,s1,s2,s3,s4⟩) (fail)
 all_goals go_wp2
 all_goals go_ret
 all_goals exact⟨ret_int (by rw[<-HV.out]),by first|exact hall|exact hall.drew|(go_grown;done)|exact below_drewN (by go_grown) _⟩
attribute [-go_sem] run_equalIn_agg storeVar loadVar
attribute [local go_sem] lv_int lv_bool lv_u8 lv_string lv_strings lv_stas lv_pars lv_vars
theorem sd_of {c:Pl.Cal}{g:Nat}{W:World}(kf:W.heap[g]?=some (.cells (fq A1 A2 A3 A4 c1 c2 c3 c4 f) 28 (0,0)))(kc:W.heap[g+1]?=some (.cells (kkq 3 c) 48 (0,0))):
  (loadVar 26 ⟨g,3,none⟩).run Tryz.prog W=.ok (.slice A4 f.va.length c4) W∧(loadVar 46 ⟨g+1,7,none⟩).run Tryz.prog W=.ok (.agg (cq c.crs)) W∧(loadVar 28 ⟨g,0,none⟩).run Tryz.prog W=.ok (.agg (fq A1 A2 A3 A4 c1 c2 c3 c4 f)) W∧(loadVar 48 ⟨g+1,0,none⟩).run Tryz.prog W=.ok (.agg (kkq 3 c)) W:=by
 refine⟨?_,ld_crsC kc,ld_row kf Tryz.underlying28 rfl info_fld,ld_row kc Tryz.underlying48 rfl info_cal⟩
 obtain⟨hc,_⟩:=blk_cells kf
 rw[lv_vars]
 simp[go_sem,hc]
set_option maxHeartbeats 4000000 in
theorem checkCallB_three (c:Pl.Cal)(w:World)(hT: ∀W,Below w.heap.size w W->Calls Tryz.prog 185 #[.agg (fq A1 A2 A3 A4 c1 c2 c3 c4 f),.agg (kkq 3 c)] W fun e w'=>e=.returned (.bool true)∧Below W.heap.size W w')
  (hD: ∀W,Calls Tryz.prog 186 #[.agg (cq c.crs)] W fun e w'=>e=.returned (.int .i64 0)∧Below W.heap.size W w')
  (x:Int) (hX: ∀W,Below w.heap.size w W->Calls Tryz.prog 140 #[.agg (fq A1 A2 A3 A4 c1 c2 c3 c4 f),.agg (kkq 3 c)] W fun e w'=>e=.returned (.int .i64 x)∧Below W.heap.size W w')
  (lo hi E:Int) (ok:Bool) (hI: ∀W,Below w.heap.size w W->Calls Tryz.prog 187 #[.slice A4 f.va.length c4,.agg (cq c.crs),.int .i64 x] W fun e w'=>e=.returned (.tuple #[.int .i64 lo,.int .i64 hi,.bool ok,.int .i64 E])∧Below W.heap.size W w'):
  Calls Tryz.prog 129 #[.agg (fq A1 A2 A3 A4 c1 c2 c3 c4 f),.agg (kkq 3 c)] w fun e w'=>e=.returned (.int .i64 (if E≠0 then E else if ok=true then 0 else 5))∧Below w.heap.size w w':=by
 have kf:=(heap_alloc_new w (.cells (fq A1 A2 A3 A4 c1 c2 c3 c4 f) 28))
 have kc:=(heap_alloc_new (w.alloc (.cells (fq A1 A2 A3 A4 c1 c2 c3 c4 f) 28)) (.cells (kkq 3 c) 48))
 rw[World.size_alloc]at kc
 have kf:=(Below.heap_alloc _ (.cells (kkq 3 c) 48) _ (lO kf)).trans kf
 have l01:=ld_row kf Tryz.underlying28 rfl info_fld
 have l02:=ld_row kc Tryz.underlying48 rfl info_cal
 have hall:Below w.heap.size w ((w.alloc (.cells (fq A1 A2 A3 A4 c1 c2 c3 c4 f) 28)).alloc (.cells (kkq 3 c) 48)):=((Below.refl _ w).alloc (Nat.le_refl _) _).alloc (by simp) _
 have l03:=ld_crsC kc
 go_enter Tryz.func129,Tryz.ntmps129
 go_wp2_with fail
 refine(hT _ hall).mono ?_
 rintro e w1 ⟨rfl,hx⟩
 clear l03
 replace kf:=kE hx kf;replace kc:=kE hx kc;replace hall:Below w.heap.size w _:=hall.trans (hx.mono hall.size);(try clear l01 l02);have l01:=ld_row kf Tryz.underlying28 rfl info_fld;have l02:=ld_row kc Tryz.underlying48 rfl info_cal;(try clear hcf hff hcc hfc);obtain⟨hcf,hff⟩:=blk_cells kf;obtain⟨hcc,hfc⟩:=blk_cells kc;clear hx
 have l03:=ld_crsC kc
 go_wp2_with fail
 refine(hD _).mono ?_
 rintro e w2 ⟨rfl,hx⟩
 clear l03
 replace kf:=kE hx kf;replace kc:=kE hx kc;replace hall:Below w.heap.size w _:=hall.trans (hx.mono hall.size);(try clear l01 l02);have l01:=ld_row kf Tryz.underlying28 rfl info_fld;have l02:=ld_row kc Tryz.underlying48 rfl info_cal;(try clear hcf hff hcc hfc);obtain⟨hcf,hff⟩:=blk_cells kf;obtain⟨hcc,hfc⟩:=blk_cells kc;clear hx
 clear hcf hff hcc hfc
 go_wp2_with fail
 go_region_held3 (fun W=>(loadVar 26 ⟨w.heap.size,3,none⟩).run Tryz.prog W=.ok (.slice A4 f.va.length c4) W∧(loadVar 46 ⟨w.heap.size+1,7,none⟩).run Tryz.prog W=.ok (.agg (cq c.crs)) W∧(loadVar 28 ⟨w.heap.size,0,none⟩).run Tryz.prog W=.ok (.agg (fq A1 A2 A3 A4 c1 c2 c3 c4 f)) W∧(loadVar 48 ⟨w.heap.size+1,0,none⟩).run Tryz.prog W=.ok (.agg (kkq 3 c)) W) (first|exact sd_of A1 A2 A3 A4 c1 c2 c3 c4 f kf5 kc5|exact sd_of A1 A2 A3 A4 c1 c2 c3 c4 f kf4 kc4|exact sd_of A1 A2 A3 A4 c1 c2 c3 c4 f kf kc) (first
  |(go_at_call 140;refine(hX _ hall.drew).mono ?_;rintro e w4 ⟨rfl,hx⟩;have kf4:=(hx.block w.heap.size (lO kf)).trans kf;have kc4:=(hx.block (w.heap.size+1) (lO kc)).trans kc;have hall4:Below w.heap.size w w4:=hall.drew.trans (hx.mono hall.size);clear hx)
  |(go_at_call 187;refine(hI _ hall4).mono ?_;rintro e w5 ⟨rfl,hx⟩;have kf5:=(hx.block w.heap.size (lO kf4)).trans kf4;have kc5:=(hx.block (w.heap.size+1) (lO kc4)).trans kc4;have hall5:Below w.heap.size w w5:=hall4.trans (hx.mono hall4.size);clear hx))
 all_goals clear hD hX hI hT
 all_goals by_cases h0:E=0
 all_goals try subst h0
 all_goals try (have hne:(E !=0)=true:=by simpa using h0)
 all_goals cases ok
 all_goals go_wp2
 all_goals go_ret
 all_goals exact⟨by simp_all,hall5⟩
set_option maxHeartbeats 4000000 in
theorem checkCallB_crs (c:Pl.Cal)(w:World)(hT: ∀W,Below w.heap.size w W->Calls Tryz.prog 185 #[.agg (fq A1 A2 A3 A4 c1 c2 c3 c4 f),.agg (kkq 3 c)] W fun e w'=>e=.returned (.bool true)∧Below W.heap.size W w')
  (hD: ∀W,Calls Tryz.prog 186 #[.agg (cq c.crs)] W fun e w'=>e=.returned (.int .i64 1)∧Below W.heap.size W w'):
  Calls Tryz.prog 129 #[.agg (fq A1 A2 A3 A4 c1 c2 c3 c4 f),.agg (kkq 3 c)] w fun e w'=>e=.returned (.int .i64 1)∧Below w.heap.size w w':=by
 have kf:=(heap_alloc_new w (.cells (fq A1 A2 A3 A4 c1 c2 c3 c4 f) 28))
 have kc:=(heap_alloc_new (w.alloc (.cells (fq A1 A2 A3 A4 c1 c2 c3 c4 f) 28)) (.cells (kkq 3 c) 48))
 rw[World.size_alloc]at kc
 have kf:=(Below.heap_alloc _ (.cells (kkq 3 c) 48) _ (lO kf)).trans kf
 have l01:=ld_row kf Tryz.underlying28 rfl info_fld
 have l02:=ld_row kc Tryz.underlying48 rfl info_cal
 have hall:Below w.heap.size w ((w.alloc (.cells (fq A1 A2 A3 A4 c1 c2 c3 c4 f) 28)).alloc (.cells (kkq 3 c) 48)):=((Below.refl _ w).alloc (Nat.le_refl _) _).alloc (by simp) _
 have l03:=ld_crsC kc
 go_enter Tryz.func129,Tryz.ntmps129
 go_wp2_with fail
 refine(hT _ hall).mono ?_
 rintro e w1 ⟨rfl,hx⟩
 clear l03
 replace kf:=kE hx kf;replace kc:=kE hx kc;replace hall:Below w.heap.size w _:=hall.trans (hx.mono hall.size);(try clear l01 l02);have l01:=ld_row kf Tryz.underlying28 rfl info_fld;have l02:=ld_row kc Tryz.underlying48 rfl info_cal;(try clear hcf hff hcc hfc);obtain⟨hcf,hff⟩:=blk_cells kf;obtain⟨hcc,hfc⟩:=blk_cells kc;clear hx
 have l03:=ld_crsC kc
 go_wp2_with fail
 refine(hD _).mono ?_
 rintro e w2 ⟨rfl,hx⟩
 clear l03
 replace kf:=kE hx kf;replace kc:=kE hx kc;replace hall:Below w.heap.size w _:=hall.trans (hx.mono hall.size);(try clear l01 l02);have l01:=ld_row kf Tryz.underlying28 rfl info_fld;have l02:=ld_row kc Tryz.underlying48 rfl info_cal;(try clear hcf hff hcc hfc);obtain⟨hcf,hff⟩:=blk_cells kf;obtain⟨hcc,hfc⟩:=blk_cells kc;clear hx
 go_wp2_with fail
 go_ret
 exact⟨rfl,hall⟩
set_option maxHeartbeats 4000000 in
theorem checkCallB_not (c:Pl.Cal)(B:Bool)(w:World)(h3:B=true->c.kind≠3)(hT: ∀W,Below w.heap.size w W->Calls Tryz.prog 185 #[.agg (fq A1 A2 A3 A4 c1 c2 c3 c4 f),.agg (kq c)] W fun e w'=>e=.returned (.bool B)∧Below W.heap.size W w'):
  Calls Tryz.prog 129 #[.agg (fq A1 A2 A3 A4 c1 c2 c3 c4 f),.agg (kq c)] w fun e w'=>e=.returned (.int .i64 (if B=true then 0 else 1))∧Below w.heap.size w w':=by
 have kf:=(heap_alloc_new w (.cells (fq A1 A2 A3 A4 c1 c2 c3 c4 f) 28))
 have kc:=(heap_alloc_new (w.alloc (.cells (fq A1 A2 A3 A4 c1 c2 c3 c4 f) 28)) (.cells (kq c) 48))
 rw[World.size_alloc]at kc
 have kf:=(Below.heap_alloc _ (.cells (kq c) 48) _ (lO kf)).trans kf
 have l01:=ld_row kf Tryz.underlying28 rfl info_fld
 have l02:=ld_row kc Tryz.underlying48 rfl info_cal
 have hall:Below w.heap.size w ((w.alloc (.cells (fq A1 A2 A3 A4 c1 c2 c3 c4 f) 28)).alloc (.cells (kq c) 48)):=((Below.refl _ w).alloc (Nat.le_refl _) _).alloc (by simp) _
 cases B with
 |false=>
  clear h3
  go_enter Tryz.func129,Tryz.ntmps129
  go_wp2_with fail
  refine(hT _ hall).mono ?_
  rintro e w1 ⟨rfl,hx⟩
  replace kf:=kE hx kf;replace kc:=kE hx kc;replace hall:Below w.heap.size w _:=hall.trans (hx.mono hall.size);(try clear l01 l02);have l01:=ld_row kf Tryz.underlying28 rfl info_fld;have l02:=ld_row kc Tryz.underlying48 rfl info_cal;(try clear hcf hff hcc hfc);obtain⟨hcf,hff⟩:=blk_cells kf;obtain⟨hcc,hfc⟩:=blk_cells kc;clear hx
  go_wp2_with fail
  go_ret
  exact⟨rfl,hall⟩
 | true=>
  have q3:((c.kind:Int) !=3)=true:=by
   have:=h3 rfl
   rw[bne_iff_ne]
   omega
  clear h3
  go_enter Tryz.func129,Tryz.ntmps129
  go_wp2_with fail
  refine(hT _ hall).mono ?_
  rintro e w1 ⟨rfl,hx⟩
  replace kf:=kE hx kf;replace kc:=kE hx kc;replace hall:Below w.heap.size w _:=hall.trans (hx.mono hall.size);(try clear l01 l02);have l01:=ld_row kf Tryz.underlying28 rfl info_fld;have l02:=ld_row kc Tryz.underlying48 rfl info_cal;(try clear hcf hff hcc hfc);obtain⟨hcf,hff⟩:=blk_cells kf;obtain⟨hcc,hfc⟩:=blk_cells kc;clear hx
  go_wp2_with fail
  go_ret
  exact⟨rfl,hall⟩
theorem ok_errB {c:Pl.Crs}(h:c.ok=true):Pl.err (Pl.courseOk c.b c.n c.l c.y c.x c.s)=0:=by unfold Pl.Crs.ok at h;rw[h];rfl
theorem bad_errB {c:Pl.Crs}(h:c.ok=false):Pl.err (Pl.courseOk c.b c.n c.l c.y c.x c.s)=1:=by unfold Pl.Crs.ok at h;rw[h];rfl
theorem checkCallB_a (c:Pl.Cal)(E:Int)(w:World)(hE:Hid (Pl.callE f c=E))(hf:FldS w w.heap.size A1 A2 A3 A4 f)(hm:Small f)(_hc:Caps c1 c2 c3 c4 f)(hF:Pl.fieldE f=0):
  Calls Tryz.prog 129 #[.agg (fq A1 A2 A3 A4 c1 c2 c3 c4 f),.agg (kq c)] w fun e w'=>e=.returned (.int .i64 E)∧Below w.heap.size w w':=by
 rw[<-hE.out,<-Pl.checkR_eq]
 have hok:=Pl.fieldE_ok hF
 have hS:=hok.st12
 have hL:=hok.li10
 have hT:=fun W=>table_b A1 A2 A3 A4 c1 c2 c3 c4 f c W (by omega) (by omega)
 unfold Pl.checkR
 cases hB:Pl.tabR f.st.length f.li.length c with
 |false=>
  rw[hB]at hT
  have:=checkCallB_not A1 A2 A3 A4 c1 c2 c3 c4 f c false w (fun h=>by cases h) (fun W _=>hT W)
  simpa using this
 | true=>
  rw[hB]at hT
  rw[if_neg (by decide)]
  by_cases h3:c.kind=3
  ·have ht:=Pl.tabR_iff.1 hB
   have hk:(c.kind:Int)=3:=by omega
   rw[if_neg (by simpa using h3)]
   rw[hk]at hT ⊢
   cases hc3:c.crs.ok with
   |false=>
    rw[if_pos rfl]
    have hD:=fun W=>course_b c.crs.b c.crs.n c.crs.l c.crs.y c.crs.x c.crs.s W
    rw[bad_errB hc3]at hD
    exact checkCallB_crs A1 A2 A3 A4 c1 c2 c3 c4 f c w (fun W _=>hT W) hD
   | true=>
    rw[if_neg (by decide)]
    have hD:=fun W=>course_b c.crs.b c.crs.n c.crs.l c.crs.y c.crs.x c.crs.s W
    rw[ok_errB hc3]at hD
    exact checkCallB_three A1 A2 A3 A4 c1 c2 c3 c4 f c w (fun W _=>hT W) hD (Pl.runC f.st c)
     (fun W hW=>run_b A1 A2 A3 A4 c1 c2 c3 c4 f 3 c W (hf.up hW).st (by omega) ht.2.1 (Pl.tab_till ht h3) hok.x) _ _ _ _
     (fun W hW=>Interval_b A4 c4 f.va c.crs (Pl.runC f.st c) W (hf.up hW).va (by have:=hm.va;unfold maxLen;omega))
  ·rw[if_pos h3]
   have:=checkCallB_not A1 A2 A3 A4 c1 c2 c3 c4 f c true w (fun _=>h3) (fun W _=>hT W)
   simpa using this
set_option maxHeartbeats 2000000 in
theorem checkCallB_h (c:Pl.Cal)(E:Int)(w:World)(hE:Hid (Pl.checkCallE f c=E))(hf:FldS w w.heap.size A1 A2 A3 A4 f)(hm:Small f)(hc:Caps c1 c2 c3 c4 f):
  Calls Tryz.prog 68 #[.agg (fq A1 A2 A3 A4 c1 c2 c3 c4 f),.agg (kq c)] w fun e w'=>e=.returned (.int .i64 E)∧Below w.heap.size w w':=by
 have kf:=(heap_alloc_new w (.cells (fq A1 A2 A3 A4 c1 c2 c3 c4 f) 28))
 have kc:=(heap_alloc_new (w.alloc (.cells (fq A1 A2 A3 A4 c1 c2 c3 c4 f) 28)) (.cells (kq c) 48))
 rw[World.size_alloc]at kc
 have kf:=(Below.heap_alloc _ (.cells (kq c) 48) _ (lO kf)).trans kf
 have l01:=ld_row kf Tryz.underlying28 rfl info_fld
 have l02:=ld_row kc Tryz.underlying48 rfl info_cal
 have hall:Below w.heap.size w ((w.alloc (.cells (fq A1 A2 A3 A4 c1 c2 c3 c4 f) 28)).alloc (.cells (kq c) 48)):=((Below.refl _ w).alloc (Nat.le_refl _) _).alloc (by simp) _
 obtain⟨F,hF⟩: ∃F,Pl.fieldE f=F:=⟨_,rfl⟩
 have HF:=Lib.hid hF
 by_cases h0:F=0
 ·subst h0
  have hE':Hid (Pl.callE f c=E):=Lib.hid (by have:=hE.out;unfold Pl.checkCallE at this;rwa[if_pos HF.out]at this)
  clear hE hF
  go_enter Tryz.func68,Tryz.ntmps68
  go_wp2_with fail
  refine(checkFieldB_h A1 A2 A3 A4 c1 c2 c3 c4 f 0 _ HF (hf.up hall) hm hc).mono ?_
  rintro e w1 ⟨rfl,hx⟩
  replace kf:=kE hx kf;replace kc:=kE hx kc;replace hall:Below w.heap.size w _:=hall.trans (hx.mono hall.size);(try clear l01 l02);have l01:=ld_row kf Tryz.underlying28 rfl info_fld;have l02:=ld_row kc Tryz.underlying48 rfl info_cal;(try clear hcf hff hcc hfc);obtain⟨hcf,hff⟩:=blk_cells kf;obtain⟨hcc,hfc⟩:=blk_cells kc;clear hx
  go_wp2_with fail
  refine(checkCallB_a A1 A2 A3 A4 c1 c2 c3 c4 f c E _ hE' (hf.up hall) hm hc HF.out).mono ?_
  rintro e w2 ⟨rfl,hx⟩
  replace kf:=kE hx kf;replace kc:=kE hx kc;replace hall:Below w.heap.size w _:=hall.trans (hx.mono hall.size);(try clear l01 l02);have l01:=ld_row kf Tryz.underlying28 rfl info_fld;have l02:=ld_row kc Tryz.underlying48 rfl info_cal;(try clear hcf hff hcc hfc);obtain⟨hcf,hff⟩:=blk_cells kf;obtain⟨hcc,hfc⟩:=blk_cells kc;clear hx
  go_wp2_with fail
  go_ret
  exact⟨rfl,hall⟩
 ·have q0:(F==0)=false:=by simpa using h0
  have hE':Hid (F=E):=Lib.hid (by have:=hE.out;unfold Pl.checkCallE at this;rwa[if_neg (by rw[HF.out];exact h0),HF.out]at this)
  clear hE hF
  go_enter Tryz.func68,Tryz.ntmps68
  go_wp2_with fail
  refine(checkFieldB_h A1 A2 A3 A4 c1 c2 c3 c4 f F _ HF (hf.up hall) hm hc).mono ?_
  rintro e w1 ⟨rfl,hx⟩
  replace kf:=kE hx kf;replace kc:=kE hx kc;replace hall:Below w.heap.size w _:=hall.trans (hx.mono hall.size);(try clear l01 l02);have l01:=ld_row kf Tryz.underlying28 rfl info_fld;have l02:=ld_row kc Tryz.underlying48 rfl info_cal;(try clear hcf hff hcc hfc);obtain⟨hcf,hff⟩:=blk_cells kf;obtain⟨hcc,hfc⟩:=blk_cells kc;clear hx
  go_wp2_with fail
  go_ret
  exact⟨by rw[hE'.out];rfl,hall⟩
end Go.Proofs.YtgbpekeoegfjpaaGreatDoor
namespace Go.Proofs.YtgbpekeoegfjpaaGreatDoor
namespace Pl
def lineL (ws:List ByteArray):List UInt8:=Lib.join (ws.map (·.data.toList)) [32]++[10]
def stN (f:Fld)(i:Int):ByteArray:=match f.st[i.toNat]? with|some s=>s.1|none=>⟨#[]⟩
def liN (f:Fld)(i:Int):ByteArray:=match f.li[i.toNat]? with|some s=>s|none=>⟨#[]⟩
end Pl
namespace Pl
theorem join_one (x:List UInt8):Lib.join [x] [32]=x:=by simp[Lib.join_cons,Lib.joinTail]
theorem join_cut (l:List UInt8):Lib.join (cutAt 32 l) [32]=l:=by
 induction l with
 |nil=>rfl
 | cons b l ih=>
  unfold cutAt
  split
  ·rename_i h;subst h
   cases e:cutAt 32 l with
   |nil=>exact absurd e (cutAt_ne _ _)
   |cons w ws=>rw[join_two,<-e,ih];rfl
  ·cases e:cutAt 32 l with
   |nil=>exact absurd e (cutAt_ne _ _)
   |cons w ws=>
    rw[e]at ih
    simp only
    cases ws with
    |nil=>rw[join_one]at ih ⊢;rw[ih]
    |cons y r=>rw[join_two]at ih ⊢;rw[<-ih];rfl
def plainL (l:List UInt8):Bool:= !l.isEmpty&&(l.all fun b=>b !=32&&(b !=35&&b !=10))
theorem mkB_list (s:ByteArray):mkB s.data.toList=s:=by cases s;rfl
theorem join_app : ∀ {xs ys:List (List UInt8)},xs≠ []->ys≠ []->Lib.join (xs++ys) [32]=Lib.join xs [32]++32::Lib.join ys [32]
 | [],_,h,_=>absurd rfl h
 | [x],y::r,_,_=>by rw[List.singleton_append,join_two,join_one]
 | [x],[],_,h=>absurd rfl h
 |x::y::r,ys,_,h=>by
  have ih:=join_app (xs:=y::r) (ys:=ys) (by simp) h
  rw[List.cons_append,List.cons_append,join_two,join_two,<-List.cons_append,ih]
  simp
theorem join_flat : ∀ {xss:List (List (List UInt8))},(∀xs∈xss,xs≠ [])->Lib.join (xss.map fun xs=>Lib.join xs [32]) [32]=Lib.join xss.flatten [32]
 | [],_=>rfl
 | [xs],_=>by simp[join_one]
 | xs::ys::r,h=>by
  have ih:=join_flat (xss:=ys::r) (fun zs hz=>h zs (List.mem_cons_of_mem _ hz))
  have hne:(ys::r).flatten≠ []:=by
   have:=h ys (by simp)
   intro e
   rw[List.flatten_cons]at e
   exact this (List.append_eq_nil_iff.1 e).1
  rw[List.map_cons,List.map_cons,join_two,<-List.map_cons (f:=fun xs=>Lib.join xs [32]),ih,List.flatten_cons (l:=xs),join_app (h xs (by simp)) hne]
theorem joinB_flat {xss:List (List ByteArray)}(h: ∀xs∈xss,xs≠ []):joinB (xss.map joinB)=joinB xss.flatten:=by
 unfold joinB mkB
 congr 2
 rw[List.map_map,List.map_flatten]
 have:=join_flat (xss:=xss.map fun xs=>xs.map (·.data.toList)) (by
  intro xs hx
  obtain⟨ys,hy,rfl⟩:=List.mem_map.1 hx
  simpa using h ys hy)
 rw[List.map_map]at this
 exact this
theorem joinB_one (w:ByteArray):joinB [w]=w:=by
 unfold joinB
 rw[List.map_singleton,join_one]
 exact mkB_list w
/-! ### Words that are plain -/
theorem dec_plain (u:Nat): ∀c∈Lib.decDigits u,c≠32∧c≠35∧c≠10:=by
 intro c hc
 have:=dec_digit u c hc
 refine⟨fun e=> ?_,fun e=> ?_,fun e=> ?_⟩<;>(subst e;exact absurd this.1 (by decide))
theorem spelt_ok (k:Int):plainL (spelt k).data.toList=true:=by
 rw[spelt_list]
 unfold plainL
 rw[Bool.and_eq_true,List.all_eq_true]
 unfold Lib.itoa
 split
 ·refine⟨rfl,fun c hc=> ?_⟩
  rcases List.mem_cons.1 hc with e|hc
  ·subst e;rfl
  ·have:=dec_plain _ c hc
   simp[this.1,this.2.1,this.2.2]
 ·refine⟨by have:=dec_ne k.toNat;simpa using this,fun c hc=> ?_⟩
  have:=dec_plain _ c hc
  simp[this.1,this.2.1,this.2.2]
def quadB (d:Int):ByteArray:=⟨(quad d).toArray⟩
def quadW (d:Int):List ByteArray:=(cutAt 32 (quad d)).map mkB
theorem quad_facts : ∀d:Fin 360,((cutAt 32 (quad (d.1:Int))).all plainL&&decide ((cutAt 32 (quad (d.1:Int))).length<=3)&& !((cutAt 32 (quad (d.1:Int))).contains [103,105,118,101]))=true:=by decide+kernel
theorem quadW_ok {d:Int}(h0:0<=d)(h1:d<=359):(∀w∈quadW d,plainL w.data.toList=true)∧(quadW d).length<=3∧wGive∉quadW d∧quadW d≠ []∧joinB (quadW d)=quadB d:=by
 have h:=quad_facts ⟨d.toNat,by omega⟩
 simp only[Int.toNat_of_nonneg h0,Bool.and_eq_true,List.all_eq_true,decide_eq_true_eq,Bool.not_eq_true',List.contains_eq_mem,decide_eq_false_iff_not]at h
 obtain⟨⟨h1,h2⟩,h3⟩:=h
 have hm:(quadW d).map (·.data.toList)=cutAt 32 (quad d):=by
  unfold quadW
  rw[List.map_map]
  conv=>rhs;rw[<-List.map_id (cutAt 32 (quad d))]
  apply List.map_congr_left
  intro l _
  simp[mkB]
 refine⟨fun w hw=> ?_,by unfold quadW;rw[List.length_map];exact h2,fun hw=> ?_,?_,?_⟩
 ·exact h1 _ (by rw[<-hm];exact List.mem_map_of_mem hw)
 ·refine h3 ?_
  rw[<-hm]
  exact List.mem_map.2 ⟨_,hw,rfl⟩
 ·intro e
  unfold quadW at e
  exact cutAt_ne _ _ (List.map_eq_nil_iff.1 e)
 ·unfold joinB
  rw[hm,join_cut]
  rfl
theorem unit_plain : ∀u∈poles,plainL u.2.1.data.toList=true∧plainL u.2.2.data.toList=true∧u.2.1≠wBy∧u.2.2≠wBy:=by decide+kernel
theorem spelt_by (k:Int):spelt k≠wBy:=by
 intro e
 have h:Lib.itoa k=[98,121]:=by rw[<-spelt_list,e];rfl
 unfold Lib.itoa at h
 split at h
 ·cases h
 ·have:=dec_digit k.toNat 98 (by rw[h];simp)
  exact absurd this.2 (by decide)
theorem namedL_words : ∀(us:List Unit),(∀u∈us,plainL u.2.1.data.toList=true∧plainL u.2.2.data.toList=true∧u.2.1≠wBy∧u.2.2≠wBy)-> ∀c,∀w∈namedL c us,plainL w.data.toList=true∧w≠wBy
 | [],_,c,w,hw=>by simp[namedL]at hw
 | u ::us,h,c,w,hw=>by
  simp only[namedL,List.mem_append]at hw
  rcases hw with hw|hw
  ·split at hw
   ·simp only[List.mem_cons,List.not_mem_nil,or_false]at hw
    obtain⟨a,b,c',d⟩:=h u (by simp)
    rcases hw with rfl|rfl
    ·exact⟨spelt_ok _,spelt_by _⟩
    ·unfold word;split
     ·exact⟨a,c'⟩
     ·exact⟨b,d⟩
   ·simp at hw
  ·exact namedL_words us (fun v hv=>h v (by simp[hv])) _ w hw
theorem lengthW_ok {n:Int}(h0:1<=n)(h1:n<=100000):(∀w∈namedL n poles,plainL w.data.toList=true∧w≠wBy)∧(namedL n poles).length<=6∧namedL n poles≠ []∧joinB (namedL n poles)=lengthV n:=by
 have hne:namedL n poles≠ []:=by
  intro hn
  have:=namedL_zero (by omega) (us:=poles) (fun u hu=>(good_poles u hu).1) hn
  rw[end_poles]at this
  omega
 refine⟨namedL_words poles unit_plain n,namedL_len n poles,hne,?_⟩
 rw[lengthV_in (by omega) (by omega)]
 unfold named
 rw[if_neg hne]
 rfl
end Pl
namespace Pl
def callX (f:Fld)(c:Cal):List (List ByteArray):=
 if c.kind=1 then [[wStone],[liN f c.lim],[stN f c.fr],[spelt c.size],[spelt c.er]]
 else if c.kind=2 then [[wWidth],[liN f c.lim],[liN f c.oth],[stN f c.fr],[spelt c.size],[spelt c.er]]
 else if c.kind=3 then [[wCourse],[liN f c.lim],[stN f c.fr],[stN f c.till],namedL c.crs.l poles,[wBy],quadW c.crs.b,[wGive],[spelt c.crs.n],[wWear],[spelt c.crs.x],[wSlack],[spelt c.crs.s]]
 else if c.kind=4 then [[wAlong],[liN f c.lim],[liN f c.oth],[stN f c.fr],[stN f c.till]]
 else [[wLevel],[liN f c.lim],[stN f c.fr],[stN f c.till],[spelt c.size],[spelt c.er]]
def callW (f:Fld)(c:Cal):List ByteArray:=
 if c.kind=1 then [wStone,liN f c.lim,stN f c.fr,spelt c.size,spelt c.er]
 else if c.kind=2 then [wWidth,liN f c.lim,liN f c.oth,stN f c.fr,spelt c.size,spelt c.er]
 else if c.kind=3 then [wCourse,liN f c.lim,stN f c.fr,stN f c.till,lengthV c.crs.l,wBy,quadB c.crs.b,wGive,spelt c.crs.n,wWear,spelt c.crs.x,wSlack,spelt c.crs.s]
 else if c.kind=4 then [wAlong,liN f c.lim,liN f c.oth,stN f c.fr,stN f c.till]
 else [wLevel,liN f c.lim,stN f c.fr,stN f c.till,spelt c.size,spelt c.er]
def lineB (f:Fld)(c:Cal):ByteArray:=joinB (callW f c)
theorem crs_in {c:Crs}(h:c.ok=true):(0<=c.b∧c.b<=359)∧(1<=c.l∧c.l<=100000):=⟨(c.ok_iff h).1,(c.ok_iff h).2.2.1⟩
theorem callX_join {f:Fld}{c:Cal}(h:c.kind=3->c.crs.ok=true):(callX f c).map joinB=callW f c∧ ∀xs∈callX f c,xs≠ []:=by
 unfold callX callW
 by_cases h1:c.kind=1
 ·simp[h1,joinB_one]
 by_cases h2:c.kind=2
 ·simp[h2,joinB_one]
 by_cases h3:c.kind=3
 ·obtain⟨⟨b0,b1⟩,l0,l1⟩:=crs_in (h h3)
  obtain⟨_,_,q1,q2⟩:=quadW_ok b0 b1
  obtain⟨_,_,m1,m2⟩:=lengthW_ok l0 l1
  simp[h3,joinB_one,q2.1,q2.2,m1,m2]
 by_cases h4:c.kind=4
 ·simp[h4,joinB_one]
 simp[h1,h2,h3,h4,joinB_one]
theorem liN_name {f:Fld}(h:FieldOk f){i:Int}(hi:inN i f.li.length):liN f i∈f.li∧isName (liN f i)=true∧limOf f (liN f i)=some i.toNat:=by
 unfold inN at hi
 have hlt:i.toNat<f.li.length:=by omega
 unfold liN limOf
 rw[List.getElem?_eq_getElem hlt]
 simp only
 refine⟨List.getElem_mem hlt,List.all_eq_true.1 h.ln _ (List.getElem_mem hlt),idx_hit hlt (fun j hj=> ?_) (by simp)⟩
 have:=List.pairwise_iff_getElem.1 h.l2 j i.toNat (by omega) hlt hj
 simpa using this
theorem stN_name {f:Fld}(h:FieldOk f){i:Int}(hi:inN i f.st.length):stN f i∈f.sn∧isName (stN f i)=true∧staOf f (stN f i)=some i.toNat:=by
 unfold inN at hi
 have hlt:i.toNat<f.st.length:=by omega
 unfold stN staOf
 rw[List.getElem?_eq_getElem hlt]
 simp only
 have hm:f.st[i.toNat].1∈f.sn:=List.mem_map_of_mem (List.getElem_mem hlt)
 refine⟨hm,List.all_eq_true.1 h.sn _ hm,idx_hit hlt (fun j hj=> ?_) (by simp)⟩
 have:=List.pairwise_iff_getElem.1 h.s2 j i.toNat (by unfold Fld.sn;simp;omega) (by unfold Fld.sn;simp;omega) hj
 unfold Fld.sn at this
 simpa using this
theorem tab_oth {S L:Nat}{c:Cal}(h:c.tab S L)(_hk:c.kind=2∨c.kind=4):inN c.oth L:=by
 obtain⟨h1,_,h⟩:=h
 unfold inN at*
 rcases h with h|h|h|h|h<;>omega
theorem tab_far {S L:Nat}{c:Cal}(h:c.tab S L)(_hk:c.kind=3∨c.kind=4∨c.kind=5):inN c.till S:=by
 obtain⟨_,h1,h⟩:=h
 unfold inN at*
 rcases h with h|h|h|h|h<;>omega
theorem tab_kind {S L:Nat}{c:Cal}(h:c.tab S L):c.kind=1∨c.kind=2∨c.kind=3∨c.kind=4∨c.kind=5:=by
 obtain⟨_,_,h⟩:=h
 rcases h with h|h|h|h|h<;>omega
end Pl
namespace Pl
noncomputable def callsE (f:Fld)(year:Int):List Cal->Int
 | []=>0
 |c::l=>if callE f c≠0 then callE f c else if c.kind=3∧c.crs.y≠year then 1 else callsE f year l
def datedB (y r:Int):Bool:=inB y 1 3000&&inB r 0 1000
noncomputable def dedE (f:Fld)(d:Ded):Int:=
 if 20<d.calls.length then 2 else if isName d.name=false then 4 else if datedB d.year d.rank=false then 1 else callsE f d.year d.calls
noncomputable def dedsGo (f:Fld)(done:List ByteArray):List Ded->Int
 | []=>0
 |d::l=>if dedE f d≠0 then dedE f d else if done.any (fun x=>decide (x=d.name))=true then 6 else dedsGo f (done++[d.name]) l
noncomputable def deedE (f:Fld)(d:Ded):Int:=if fieldE f=0 then dedE f d else fieldE f
noncomputable def deedsE (f:Fld)(l:List Ded):Int:=if fieldE f=0 then (if 60<l.length then 2 else dedsGo f [] l)else fieldE f
theorem callsE_ok {f:Fld}{y:Int}: ∀ {l:List Cal},callsE f y l=0-> ∀c∈l,callE f c=0∧(c.kind=3->c.crs.y=y)
 | [],_,c,hc=>by cases hc
 | c::l,h,d,hd=>by
  unfold callsE at h
  split at h
  ·exact absurd h ‹_›
  rename_i h1
  split at h
  ·cases h
  rename_i h2
  rcases List.mem_cons.1 hd with e|hd
  ·subst e
   exact⟨by simpa using h1,fun hk=>by simpa [hk]using h2⟩
  ·exact callsE_ok h d hd
structure DedOk (f:Fld)(d:Ded):Prop where
 few:d.calls.length<=20
 name:isName d.name=true
 year:1<=d.year∧d.year<=3000
 rank:0<=d.rank∧d.rank<=1000
 calls: ∀c∈d.calls,callE f c=0∧(c.kind=3->c.crs.y=d.year)
theorem dedE_ok {f:Fld}{d:Ded}(h:dedE f d=0):DedOk f d:=by
 unfold dedE at h
 split at h
 ·cases h
 rename_i h1
 split at h
 ·cases h
 rename_i h2
 split at h
 ·cases h
 rename_i h3
 unfold datedB inB at h3
 simp at h3
 exact⟨by omega,by simpa using h2,by omega,by omega,callsE_ok h⟩
theorem dedsGo_ok {f:Fld}: ∀ {l:List Ded} {done:List ByteArray},dedsGo f done l=0->(∀d∈l,DedOk f d)∧(l.map Ded.name).Nodup∧ ∀d∈l,d.name∉done
 | [],_,_=>by simp
 | d::l,done,h=>by
  unfold dedsGo at h
  split at h
  ·exact absurd h ‹_›
  rename_i h1
  split at h
  ·cases h
  rename_i h2
  obtain⟨a,b,c⟩:=dedsGo_ok h
  have hd:d.name∉done:=by
   intro hm
   exact h2 (List.any_eq_true.2 ⟨_,hm,by simp⟩)
  refine⟨fun x hx=> ?_,?_,fun x hx=> ?_⟩
  ·rcases List.mem_cons.1 hx with e|hx
   ·subst e;exact dedE_ok (by simpa using h1)
   ·exact a x hx
  ·rw[List.map_cons,List.nodup_cons]
   refine⟨fun hm=> ?_,b⟩
   obtain⟨x,hx,e⟩:=List.mem_map.1 hm
   exact c x hx (by rw[e];simp)
  ·rcases List.mem_cons.1 hx with e|hx
   ·subst e;exact hd
   ·exact fun hm=>c x hx (by simp[hm])
def dedW (d:Ded):List ByteArray:=[wDeed,d.name,spelt d.year,spelt d.rank]
def deedsW (f:Fld)(l:List Ded):List (List ByteArray):=l.flatMap fun d=>dedW d::d.calls.map fun c=>(callX f c).flatten
def deedsL (f:Fld)(l:List Ded):List UInt8:=(deedsW f l).flatMap lineL
noncomputable def deedsB (f:Fld)(l:List Ded):ByteArray:=if deedsE f l=0 then mkB (deedsL f l)else ⟨#[]⟩
theorem line_text {f:Fld}{c:Cal}(h:c.kind=3->c.crs.ok=true):lineL (callX f c).flatten=(lineB f c).data.toList++[10]:=by
 obtain⟨e1,e2⟩:=callX_join (f:=f) h
 unfold lineB
 rw[<-e1,joinB_flat e2]
 unfold lineL joinB mkB
 simp
end Pl
namespace Pl
theorem name_size {s:ByteArray}(h:isName s=true):s.size<=24:=by
 unfold isName at h
 have hs:s.size=s.data.toList.length:=by simp
 split at h
 ·cases h
 ·rename_i e
  simp only[Bool.and_eq_true,decide_eq_true_eq]at h
  rw[hs,e]
  simp
  omega
theorem spelt_size {v:Int}(h0: -9223372036854775808<=v)(h1:v<=9223372036854775807):(spelt v).size<=21:=by
 unfold spelt
 have:=Lib.itoa_length_le v h0 h1
 show(Lib.itoa v).toArray.size<=21
 simpa using this
theorem joinB_size {ws:List ByteArray}{n:Nat}(h: ∀x∈ws,x.size<=n):(Lib.join (ws.map (·.data.toList)) [32]).length<=(n+1)*ws.length:=by
 cases ws with
 |nil=>simp[Lib.join]
 | cons a r=>
  rw[List.map_cons,Lib.join_length,<-List.map_cons (f:=fun x:ByteArray=>x.data.toList)]
  have:=lens_le (xs:=(a::r).map (·.data.toList)) (N:=n) (fun x hx=>by
   obtain⟨y,hy,rfl⟩:=List.mem_map.1 hx
   simpa using h y hy)
  simp at this ⊢
  simp only[Nat.add_mul,Nat.mul_add]at*
  omega
theorem unit_size (k:Int): ∀u∈poles,(word k u).size<=6:=by
 intro u hu
 unfold word
 split<;>revert u<;>decide
theorem namedL_size : ∀(us:List Unit) (c:Int),0<=c->c<=1000000000000->(∀u∈us,1<=u.1∧ ∀k,(word k u).size<=6)-> ∀w∈namedL c us,w.size<=21
 | [],_,_,_,_=>by simp[namedL]
 | u::us,c,h0,h1,hu=>by
  intro w hw
  obtain⟨hs,hk⟩:=hu u (by simp)
  obtain⟨_,_,p0,p1,m0,m1⟩:=part_eq h0 h1 hs
  simp only[namedL,List.mem_append]at hw
  rcases hw with hw|hw
  ·split at hw
   ·simp only[List.mem_cons,List.not_mem_nil,or_false]at hw
    rcases hw with e|e
    ·subst e;exact spelt_size (by omega) (by omega)
    ·subst e;have:=hk (c/u.1);omega
   ·simp at hw
  ·exact namedL_size us (c%u.1) m0 m1 (fun v hv=>hu v (by simp[hv])) w hw
theorem lengthV_size {n:Int}(h0:1<=n)(h1:n<=100000):(lengthV n).size<=200:=by
 obtain⟨_,m1,_,m2⟩:=lengthW_ok h0 h1
 rw[<-m2]
 have h:=namedL_size poles n (by omega) (by omega) (fun u hu=>⟨by revert u;decide,fun k=>unit_size k u hu⟩)
 have:=joinB_size h
 show(Lib.join _ [32]).toArray.size<=200
 simp only[List.size_toArray]
 omega
theorem quadB_size {b:Int}(h0:0<=b)(h1:b<=359):(quadB b).size<=200:=by
 have h: ∀k:Fin 360,(quad ((k.val:Nat):Int)).length<=200:=by decide+kernel
 have:=h ⟨b.toNat,by omega⟩
 unfold quadB
 show(quad b).toArray.size<=200
 rw[show((b.toNat:Nat):Int)=b by omega]at this
 simpa using this
theorem callW_size {f:Fld}{c:Cal}(hf:FieldOk f)(ht:c.tab f.st.length f.li.length)(h:c.kind=3->c.crs.ok=true): ∀x∈callW f c,x.size<=200:=by
 have a1:=name_size (liN_name hf ht.1).2.1
 have a2:=name_size (stN_name hf ht.2.1).2.1
 have a3: ∀v:Int,-1000000<=v->v<=1000000->(spelt v).size<=200:=fun v p q=>by have:=spelt_size (v:=v) (by omega) (by omega);omega
 have p:wStone.size<=200∧wWidth.size<=200∧wCourse.size<=200∧wAlong.size<=200∧wLevel.size<=200∧wBy.size<=200∧wGive.size<=200∧wWear.size<=200∧wSlack.size<=200:=by decide
 have b1:(liN f c.lim).size<=200:=by omega
 have b2:(stN f c.fr).size<=200:=by omega
 unfold callW
 rcases tab_kind ht with hk|hk|hk|hk|hk
 ·have s:=ht.2.2
  have e1:=a3 c.size (by omega) (by omega)
  have e2:=a3 c.er (by omega) (by omega)
  simp[hk,b1,b2,e1,e2,p]
 ·have b4:(liN f c.oth).size<=200:=by have:=name_size (liN_name hf (tab_oth ht (.inl hk))).2.1;omega
  have s:=ht.2.2
  have e1:=a3 c.size (by omega) (by omega)
  have e2:=a3 c.er (by omega) (by omega)
  simp[hk,b1,b2,b4,e1,e2,p]
 ·have b4:(stN f c.till).size<=200:=by have:=name_size (stN_name hf (tab_far ht (.inl hk))).2.1;omega
  obtain⟨⟨r0,r1⟩,⟨n0,n1⟩,⟨l0,l1⟩,_,⟨x0,x1⟩,s0,s1⟩:=Crs.ok_iff (h hk)
  have e1:=a3 c.crs.n (by omega) (by omega)
  have e2:=a3 c.crs.x (by omega) (by omega)
  have e3:=a3 c.crs.s (by omega) (by omega)
  have e4:=lengthV_size l0 l1
  have e5:=quadB_size r0 r1
  simp[hk,b1,b2,b4,e1,e2,e3,e4,e5,p]
 ·have b4:(liN f c.oth).size<=200:=by have:=name_size (liN_name hf (tab_oth ht (.inr hk))).2.1;omega
  have b5:(stN f c.till).size<=200:=by have:=name_size (stN_name hf (tab_far ht (.inr (.inl hk)))).2.1;omega
  simp[hk,b1,b2,b4,b5,p]
 ·have b5:(stN f c.till).size<=200:=by have:=name_size (stN_name hf (tab_far ht (.inr (.inr hk)))).2.1;omega
  have s:=ht.2.2
  have e1:=a3 c.size (by omega) (by omega)
  have e2:=a3 c.er (by omega) (by omega)
  simp[hk,b1,b2,b5,e1,e2,p]
theorem callW_len (f:Fld)(c:Cal):(callW f c).length<=13:=by
 unfold callW
 repeat' split
 all_goals simp
theorem lineB_size {f:Fld}{c:Cal}(hf:FieldOk f)(ht:c.tab f.st.length f.li.length)(h:c.kind=3->c.crs.ok=true):(lineB f c).size<=3000:=by
 have h1:=joinB_size (callW_size hf ht h)
 have h2:=callW_len f c
 show(Lib.join _ [32]).toArray.size<=3000
 simp only[List.size_toArray]
 have:(200+1)*(callW f c).length<=201*13:=Nat.mul_le_mul_left _ h2
 omega
end Pl
namespace Pl
def callL (f:Fld)(c:Cal):List UInt8:=(lineB f c).data.toList++[10]
def dedL (f:Fld)(d:Ded):List UInt8:=lineL (dedW d)++d.calls.flatMap (callL f)
theorem flatMap_same {α β:Type}{g h:α->List β}: ∀ {l:List α},(∀x∈l,g x=h x)->l.flatMap g=l.flatMap h
 | [],_=>rfl
 |x::l,e=>by rw[List.flatMap_cons,List.flatMap_cons,e x (by simp),flatMap_same fun y hy=>e y (by simp[hy])]
theorem deedsL_eq {f:Fld}: ∀ {l:List Ded},(∀d∈l,DedOk f d)->deedsL f l=l.flatMap (dedL f)
 | [],_=>rfl
 |d::l,h=>by
  have ih:=deedsL_eq (f:=f) (l:=l) fun x hx=>h x (by simp[hx])
  unfold deedsL deedsW at ih ⊢
  rw[List.flatMap_cons,List.flatMap_append,ih,List.flatMap_cons]
  congr 1
  unfold dedL
  congr 1
  rw[List.flatMap_map]
  refine flatMap_same fun c hc=> ?_
  obtain⟨hc,_⟩:=(h d (by simp)).calls c hc
  exact line_text fun hk=>(callE_three hc hk).1
theorem take_zero {α β:Type}(g:α->List β)(l:List α):(l.take 0).flatMap g=[]:=by simp
theorem take_succ {α β:Type}(g:α->List β){l:List α}{k:Nat}(h:k<l.length):(l.take (k+1)).flatMap g=(l.take k).flatMap g++g l[k]:=by
 rw[List.take_succ_eq_append_getElem h,List.flatMap_append]
 simp
theorem take_len {α β:Type}(g:α->List β)(l:List α)(m:Nat)(h: ∀x∈l,(g x).length<=m): ∀k:Nat,((l.take k).flatMap g).length<=k*m
 |0=>by simp
 | k+1=>by
  have ih:=take_len g l m h k
  by_cases hk:k<l.length
  ·rw[take_succ g hk,List.length_append,Nat.add_mul,Nat.one_mul]
   have:=h _ (List.getElem_mem hk)
   omega
  ·rw[List.take_of_length_le (by omega)]
   rw[List.take_of_length_le (by omega)]at ih
   rw[Nat.add_mul]
   omega
theorem callL_len {f:Fld}{c:Cal}(hf:FieldOk f)(hc:callE f c=0):(callL f c).length<=3001:=by
 have:=lineB_size hf (callE_tab hc) fun hk=>(callE_three hc hk).1
 unfold callL
 simp
 exact this
theorem dedW_text (d:Ded):lineL (dedW d)=(((((([100,101,101,100,32]++d.name.data.toList)++[32])++Lib.itoa d.year)++[32])++Lib.itoa d.rank)++[10]):=by
 unfold dedW lineL spelt wDeed
 simp[Lib.join_cons,Lib.joinTail]
theorem dedW_len {d:Ded}(hn:d.name.size<=24)(hy:1<=d.year∧d.year<=3000)(hr:0<=d.rank∧d.rank<=1000):(lineL (dedW d)).length<=100:=by
 rw[dedW_text]
 have h1:=Lib.itoa_length_le d.year (by omega) (by omega)
 have h2:=Lib.itoa_length_le d.rank (by omega) (by omega)
 have h3:d.name.data.toList.length<=24:=by simpa using hn
 simp only[List.length_append,List.length_cons,List.length_nil]
 omega
theorem dedL_len {f:Fld}{d:Ded}(hf:FieldOk f)(hd:DedOk f d):(dedL f d).length<=70000:=by
 unfold dedL
 rw[List.length_append]
 have h1:=dedW_len (name_size hd.name) hd.year hd.rank
 have h2:=take_len (callL f) d.calls 3001 (fun c hc=>callL_len hf (hd.calls c hc).1) d.calls.length
 rw[List.take_length]at h2
 have h3:d.calls.length*3001<=20*3001:=Nat.mul_le_mul_right _ hd.few
 omega
end Pl
end Go.Proofs.YtgbpekeoegfjpaaGreatDoor
set_option maxRecDepth 100000
namespace Go.Proofs.YtgbpekeoegfjpaaGreatDoor
open Go.RowKit
abbrev Keeps (b:Nat)(w w':World):Prop:=Lib.OthersKept 5 (some b) w w'
theorem Keeps.of {b:Nat}{w w':World}(h:Below w.heap.size w w'):Keeps b w w':=fun k _ hk _ _=>(h.block k (lO hk)).trans hk
theorem Keeps.at_ {b k:Nat}{w w':World}(h:Keeps b w w'){cs:Array Value}{T:TypeId}{z:Nat×Nat}(hk:w.heap[k]?=some (.cells cs T z))(hb:k≠b)(hT:T≠5):w'.heap[k]?=some (.cells cs T z):=
 h k _ hk (fun e=>hb (Option.some.inj e)) fun c z' e=>hT (by cases e;rfl)
abbrev IsBd (B b:Nat)(bs:List UInt8)(w:World):Prop:=Lib.IsBuilderF 154 5 B b (Lib.byteCells bs) w
theorem IsBd.below {B b:Nat}{bs:List UInt8}{w w':World}(h:IsBd B b bs w)(hx:Below w.heap.size w w'):IsBd B b bs w':=by
 rcases h with ⟨hB,v,hb,hown,hne⟩|⟨hB,v,hb,hown,hne⟩
 ·exact .inl ⟨hB,v,(hx.block b (lO hb)).trans hb,hown.kept (grownBy_of_below hx) (by cases v.ownBlock<;>simp),hne⟩
 ·exact .inr ⟨hB,v,(hx.block b (lO hb)).trans hb,hown.kept (grownBy_of_below hx) (by cases v.ownBlock<;>simp),hne⟩
theorem IsBd.lt {B b:Nat}{bs:List UInt8}{w:World}(h:IsBd B b bs w):b<w.heap.size∧B<=b:=by
 rcases h with ⟨hB,v,hb,_,_⟩|⟨hB,v,hb,_,_⟩
 ·exact⟨(lO hb),hB⟩
 ·exact⟨(lO hb),hB⟩
theorem byteCells_str (bs:List UInt8)(s:List UInt8):Lib.byteCells bs++Lib.strCells ⟨s.toArray⟩=Lib.byteCells (bs++s):=by
 simp[Lib.byteCells,Lib.strCells]
theorem ba_size (s:List UInt8):(⟨s.toArray⟩:ByteArray).size=s.length:=by show s.toArray.size=_;simp
theorem lays166 :Go.Proofs.Lays.n166 Tryz.prog Tryz.lays156_ren:= {Tryz.lays156 with}
theorem writeS (B b:Nat)(bs s:List UInt8)(w:World)(h:IsBd B b bs w)(hl:bs.length+s.length<=140737488355328):
  Calls Tryz.prog 118 #[.pointer (some ⟨b,0,none⟩),.string ⟨s.toArray⟩] w fun e w'=>e=.returned (.tuple #[.int .i64 s.length,.nilIface])∧IsBd B b (bs++s) w'∧Below B w w'∧Keeps b w w':=by
 have hlt:=h.lt
 refine(Any.Builder_WriteString_k lays166 Tryz.Builder_Extra_156 B b (Lib.byteCells bs) ⟨s.toArray⟩ w h (by rw[ba_size];simpa [Lib.byteCells]using hl) (by omega)).mono fun e w' ⟨he,hb,hx,hk⟩=>⟨?_,.inr ?_,hx,hk⟩
 ·rw[he,ba_size]
 ·rw[byteCells_str]at hb;exact hb
theorem join_h (g c:Nat)(ws:List ByteArray)(J:List UInt8)(w:World)(hJ:Hid (Lib.join (ws.map (·.data.toList)) [32]=J))(hl:J.length<=1000000)(hw:Nms w w.heap.size (some ⟨g,0,none⟩) ws)(h0:0<ws.length)(hn:ws.length<=c)(hn5:ws.length<=100):
  Calls Tryz.prog 119 #[.slice (some ⟨g,0,none⟩) ws.length c,.string ⟨#[32]⟩] w fun e w'=>e=.returned (.string ⟨J.toArray⟩)∧Below w.heap.size w w':=by
 have hg:g<w.heap.size:=by
  rcases hw with hw|⟨b,off,hA,hb,_⟩
  ·rw[hw]at h0;cases h0
  ·cases hA;exact hb
 have hc: ∀(j:Nat) x,ws[j]?=some x->w.cell? ⟨g,0+j,none⟩=some (.string x):=by
  intro j x hx
  obtain⟨hj,rfl⟩:=List.getElem?_eq_some_iff.1 hx
  obtain⟨b,off,hA,hb,q0⟩:=Nms.at1 hw hj
  cases hA
  simpa using q0
 have:=Tryz.strings_Join g 0 c ws ⟨#[32]⟩ w hc hg (by omega) hn (by show(Lib.join (ws.map (·.data.toList)) [32]).length<=_;rw[hJ.out];omega)
 refine this.mono fun e w' ⟨he,hx⟩=>⟨?_,hx⟩
 rw[he]
 show Ending.returned (.string ⟨(Lib.join (ws.map (·.data.toList)) [32]).toArray⟩)=_
 rw[hJ.out]
theorem strB (B b:Nat)(bs:List UInt8)(w:World)(h:IsBd B b bs w):
  Calls Tryz.prog 121 #[.pointer (some ⟨b,0,none⟩)] w fun e w'=>e=.returned (.string ⟨bs.toArray⟩)∧Below B w w':=by
 have hlt:=h.lt
 exact(Any.Builder_String_any_k Tryz.lays169 Tryz.Builder_Extra_169 B b bs w h (by omega)).mono fun e w' ⟨he,_,hx,_⟩=>⟨he,hx⟩
theorem digits3_one (n:Nat)(w:World)(h:n<10):Calls Tryz.prog 95 #[.int .i64 n] w fun e w'=>e=.returned (.string ⟨(Lib.decDigits n).toArray⟩)∧Below w.heap.size w w':=by
 have e:=Lib.decDigits_one h
 have H:=Lib.hid e;clear e
 have hconv:=run_convert_bytes_arg (P:=Tryz.prog) (w.alloc (.cells #[.int .u8 (48+(n:Int))] 5)) 152 5 Tryz.underlying152 Tryz.underlying5 w.heap.size 0 1 1 [48+(n:Int)] rfl (by
  intro i hi
  obtain rfl:i=0:=by omega
  rw[(blk_cells (heap_alloc_new _ _)).1];rfl) 9 Tryz.underlying9
 go_enter Tryz.func95,Tryz.ntmps95
 go_wp2
 go_ret
 refine⟨?_,by go_grown⟩
 rw[H.out]
 have e1:(48+(n:Int)).toNat=48+n:=by omega
 simp[strOfNums,e1]
theorem digits3_b (n:Nat)(w:World)(h:n<1000000000000000000):Calls Tryz.prog 95 #[.int .i64 n] w fun e w'=>e=.returned (.string ⟨(Lib.decDigits n).toArray⟩)∧Below w.heap.size w w':=by
 induction n using Nat.strongRecOn generalizing w with
 | _ n ih=>
  by_cases h10:n<10
  ·exact digits3_one n w h10
  ·have e:Lib.decDigits n=Lib.decDigits (n/10)++Lib.decDigits (n%10):=by
    rw[Lib.decDigits_one (show n%10<10 by omega)]
    conv=>lhs;unfold Lib.decDigits
    rw[dif_neg h10]
   have H:=Lib.hid e;clear e
   have l1:(Lib.decDigits (n/10)).length<=20:=by rw[Lib.decDigits_length];exact Lib.nDigits_le20 _ (by omega)
   have l2:(Lib.decDigits (n%10)).length<=20:=by rw[Lib.decDigits_length];exact Lib.nDigits_le20 _ (by omega)
   have i1:=Lib.hid fun W=>ih (n/10) (by omega) W (by omega)
   have i2:=Lib.hid fun W=>digits3_one (n%10) W (by omega)
   clear ih
   go_enter Tryz.func95,Tryz.ntmps95
   go_wp2_with fail
   refine(i1.out _).mono ?_
   rintro e w1 ⟨rfl,hx⟩
   have hb1:Below w.heap.size w w1:=Below.trans (by go_grown) (hx.mono (by go_size))
   have hsz1:=hb1.size
   clear hx
   go_wp2_with fail
   refine(i2.out _).mono ?_
   rintro e w2 ⟨rfl,hx⟩
   have hb2:Below w.heap.size w w2:=Below.trans (by go_grown) (hx.mono (by go_size))
   clear hx
   go_wp2
   go_ret
   exact⟨by rw[H.out];simp[ba_append],hb2⟩
theorem digits3_neg (m:Nat)(w:World)(h0:1<=m)(h9:m<=9):Calls Tryz.prog 95 #[.int .i64 (-(m:Int))] w fun e w'=>e=.returned (.string ⟨(45::Lib.decDigits m).toArray⟩)∧Below w.heap.size w w':=by
 have l1:(Lib.decDigits m).length<=20:=by rw[Lib.decDigits_length];exact Lib.nDigits_le20 _ (by omega)
 have g1: ¬ -(m:Int)< -9:=by omega
 have g2: -(m:Int)<0:=by omega
 go_enter Tryz.func95,Tryz.ntmps95
 go_wp2_with fail
 refine(digits3_one m _ (by omega)).mono ?_
 rintro e w1 ⟨rfl,hx⟩
 go_wp2
 go_ret
 exact⟨by simp[ba_append],hx⟩
end Go.Proofs.YtgbpekeoegfjpaaGreatDoor
set_option maxRecDepth 100000
namespace Go.Proofs.YtgbpekeoegfjpaaGreatDoor
open Go.RowKit
variable (A1 A2 A3 A4 : Option Addr) (c1 c2 c3 c4 : Nat) (f : Pl.Fld)
theorem spelt_len {n:Int}(h0: -1000000<=n)(h1:n<=1000000):(Pl.spelt n).data.toList.length<=21:=by
 unfold Pl.spelt
 have:=Lib.itoa_length_le n (by omega) (by omega)
 simpa using this
theorem list_len (s:ByteArray):s.data.toList.length=s.size:=by rw[Array.length_toList];rfl
theorem spelt_size {n:Int}(h0: -1000000<=n)(h1:n<=1000000):(Pl.spelt n).size<=21:=by rw[<-list_len];exact spelt_len h0 h1
end Go.Proofs.YtgbpekeoegfjpaaGreatDoor
namespace Go.Proofs.YtgbpekeoegfjpaaGreatDoor
open Go.RowKit
attribute [-go_sem] Builtin.append_
def encCl (c:Pl.Cal):List Value:=[.int .u8 (c.kind:Int),.int .i64 c.lim,.int .i64 c.oth,.int .i64 c.fr,.int .i64 c.till,.int .i64 c.size,.int .i64 c.er,.int .i64 c.crs.b,.int .i64 c.crs.n,.int .i64 c.crs.l,.int .i64 c.crs.y,.int .i64 c.crs.x,.int .i64 c.crs.s]
def slv (p:Option Addr×Nat)(n:Nat):Value:=.slice p.1 n p.2
def blk (p:Option Addr×Nat):Option Nat:=p.1.map (·.block)
def encDd (x:Pl.Ded×Option Addr×Nat):List Value:=[.string x.1.name,.int .i64 x.1.year,.int .i64 x.1.rank,slv x.2 x.1.calls.length]
theorem slv_own (p:Option Addr×Nat)(n:Nat):(slv p n).ownBlock=blk p:=by
 obtain⟨a,c⟩:=p
 cases a<;>rfl
def Dx (bd:Nat)(v:Value)(l:List (Pl.Ded×Option Addr×Nat))(i:Nat):Prop:=i=bd∨v.ownBlock=some i∨ ∃x∈l,blk x.2=some i
structure DInv (bd:Nat)(l:List (Pl.Ded×Option Addr×Nat))(W:World)(v:Value):Prop where
 box:W.heap[bd]?=some (.cells #[v] 38 (0,0))
 row:W.ownsRow (bd+1) 90 4 v l.length (l.flatMap encDd)
 own: ∀x∈l,W.ownsRow (bd+1) 48 13 (slv x.2 x.1.calls.length) x.1.calls.length (x.1.calls.flatMap encCl)
 one: ∀(i j:Nat) (x y:Pl.Ded×Option Addr×Nat) (g:Nat),l[i]?=some x->l[j]?=some y->blk x.2=some g->blk y.2=some g->i=j
section
variable {bd : Nat} {l : List (Pl.Ded × Option Addr × Nat)} {W W' : World} {v : Value}
theorem DInv.lt (h:DInv bd l W v):bd<W.heap.size:=(Array.getElem?_eq_some_iff.1 h.box).1
theorem DInv.dx (h:DInv bd l W v){i:Nat}(hi:Dx bd v l i):bd<=i∧i<W.heap.size:=by
 rcases hi with rfl|hi|⟨x,hx,hi⟩
 ·exact⟨Nat.le_refl _,h.lt⟩
 ·have:=h.row.lt i hi
  omega
 ·have:=(h.own x hx).lt i (by rw[slv_own];exact hi)
  omega
theorem DInv.kept (h:DInv bd l W v){b:Nat}(hg:W.grownBy W' (some b))(hn: ¬Dx bd v l b):DInv bd l W' v:=
 ⟨(hg.block bd h.lt (fun e=>by cases e;exact hn (.inl rfl))).trans h.box,h.row.kept hg (.inr fun e=>hn (.inr (.inl e))),fun x hx=>(h.own x hx).kept hg (.inr fun e=>hn (.inr (.inr ⟨x,hx,by rwa[slv_own]at e⟩))),h.one⟩
theorem DInv.below (h:DInv bd l W v)(hb:Below W.heap.size W W'):DInv bd l W' v:=
 ⟨(hb.block bd h.lt).trans h.box,own_below h.row hb,fun x hx=>own_below (h.own x hx) hb,h.one⟩
theorem DInv.empty (h:W.heap[bd]?=some (.cells #[.slice none 0 0] 38 (0,0))):DInv bd [] W (.slice none 0 0):=
 ⟨h,World.ownsRow_nil _ _ _ _,fun x hx=>(by cases hx),fun i j x y g hi=>(by simp at hi)⟩
end
end Go.Proofs.YtgbpekeoegfjpaaGreatDoor
namespace Go.Proofs.YtgbpekeoegfjpaaGreatDoor
open Go.RowKit
abbrev Dds := @Seg (Pl.Ded×Option Addr×Nat) encDd 4
theorem Dds.at4 {w:World}{B:Nat}{A:Option Addr}{l:List (Pl.Ded×Option Addr×Nat)}(h:Dds w B A l){k:Nat}(hk:k<l.length):
  ∃b off,A=some ⟨b,off,none⟩∧b<B∧w.cell? ⟨b,off+k*4,none⟩=some (.string l[k].1.name)∧w.cell? ⟨b,off+k*4+1,none⟩=some (.int .i64 l[k].1.year)∧
   w.cell? ⟨b,off+k*4+2,none⟩=some (.int .i64 l[k].1.rank)∧w.cell? ⟨b,off+k*4+3,none⟩=some (slv l[k].2 l[k].1.calls.length):=by
 obtain⟨b,off,hA,hb,hc⟩:=Seg.at_ h hk
 exact⟨b,off,hA,hb,hc 0 _ rfl,hc 1 _ rfl,hc 2 _ rfl,hc 3 _ rfl⟩
theorem idxF_d (A:Option Addr)(c:Nat)(l:List (Pl.Ded×Option Addr×Nat))(g:FuncId)(cap:Array Value)(p:(Pl.Ded×Option Addr×Nat)->Bool)(w:World)(hl:Seg encDd 4 w w.heap.size A l)(hm:l.length<=1000000)
  (hen: ∀args w,(callFunc g args).run Tryz.prog w=.ok (.enter g args) w)
  (hp: ∀x∈l,∀W,Below w.heap.size w W->Calls Tryz.prog g (#[.agg #[.string x.1.name,.int .i64 x.1.year,.int .i64 x.1.rank,slv x.2 x.1.calls.length]]++cap) W fun e W'=>e=.returned (.bool (p x))∧Below W.heap.size W W'):
  Calls Tryz.prog 184 #[.slice A l.length c,.func (.func g) #[] cap] w fun e w'=>e=.returned (.int .i64 (Pl.pos (Pl.idx p l)))∧Below w.heap.size w w':=by
 go_enter Tryz.func184,Tryz.ntmps184
 go_wp2
 go_loopw [8] (fun i wr=> ∃(k:Nat),k<=l.length∧i=.int .i64 k∧Hid (∀j (h:j<l.length),j<k->p l[j]=false)∧Below w.heap.size w wr) (fun i _=>l.length-(intOf i).toNat)
 case atStart=>exact⟨0,by omega,rfl,Lib.hid fun j _ h=>by omega,by go_grown⟩
 case round=>
  obtain⟨k,hk,rfl,hg,hb⟩:=hrel
  have hsz:=hb.size
  by_cases hlt:k<l.length
  ·obtain⟨b,off,rfl,hbB,q0,q1,q2,q3⟩:=Dds.at4 (hl.below hb) hlt
   have hpk:=Lib.hid (hp l[k] (List.getElem_mem hlt))
   cases hc:p l[k]with
   |true=>
    have hv:=Lib.hid (Pl.idx_hit (p:=p) hlt (fun j hj=>hg.out j (by omega) hj) hc)
    have HC:=Lib.hid hc
    clear hc
    go_wp2
    refine(hpk.out _ (by go_grown)).mono ?_
    rintro e w2 ⟨rfl,hx⟩
    rw[HC.out]
    have hb2:Below w.heap.size w w2:=Below.trans (by go_grown) (hx.mono (by go_size))
    clear hx
    go_wp2
    go_ret
    exact⟨by rw[hv.out];try rfl,hb2⟩
   | false=>
    have HC:=Lib.hid hc
    clear hc
    go_wp2
    refine(hpk.out _ (by go_grown)).mono ?_
    rintro e w2 ⟨rfl,hx⟩
    rw[HC.out]
    have hb2:Below w.heap.size w w2:=Below.trans (by go_grown) (hx.mono (by go_size))
    clear hx
    go_wp2
    go_roundw
    case rel=>exact⟨k+1,by omega,by go_num,Lib.hid fun j h hj=>by
     by_cases e:j=k
     ·subst e;exact HC.out
     ·exact hg.out j h (by omega),hb2⟩
    case measure=>first|(simp[intOf];done)|(simp[intOf];omega)
  ·have hv:=Lib.hid (Pl.idx_none (p:=p) (l:=l) fun j hj=>hg.out j hj (by omega))
   go_wp2
   go_ret
   exact⟨by rw[hv.out];try rfl,by go_grown⟩
theorem conF_d (A:Option Addr)(c:Nat)(l:List (Pl.Ded×Option Addr×Nat))(g:FuncId)(cap:Array Value)(p:(Pl.Ded×Option Addr×Nat)->Bool)(w:World)(hl:Seg encDd 4 w w.heap.size A l)(hm:l.length<=1000000)
  (hen: ∀args w,(callFunc g args).run Tryz.prog w=.ok (.enter g args) w)
  (hp: ∀x∈l,∀W,Below w.heap.size w W->Calls Tryz.prog g (#[.agg #[.string x.1.name,.int .i64 x.1.year,.int .i64 x.1.rank,slv x.2 x.1.calls.length]]++cap) W fun e W'=>e=.returned (.bool (p x))∧Below W.heap.size W W'):
  Calls Tryz.prog 124 #[.slice A l.length c,.func (.func g) #[] cap] w fun e w'=>e=.returned (.bool (l.any p))∧Below w.heap.size w w':=by
 have HV:Hid (decide (0<=Pl.pos (Pl.idx p l))=l.any p):=by unfold Hid;rw[Pl.pos_ge,Pl.idx_any]
 go_enter Tryz.func124,Tryz.ntmps124
 go_wp2_with (go_at_call 184;refine(idxF_d A c l g cap p w hl hm hen hp).mono ?_;rintro e w1 ⟨rfl,hx1⟩;have hb1:Below w.heap.size w w1:=Below.trans (by go_grown) (hx1.mono (by go_size));clear hx1;have hsz1:w.heap.size<=w1.heap.size:=hb1.size)
 go_ret
 exact⟨ret_bool (by rw[<-HV.out]),by go_grown⟩
end Go.Proofs.YtgbpekeoegfjpaaGreatDoor
set_option maxRecDepth 100000
namespace Go.Proofs.YtgbpekeoegfjpaaGreatDoor
open Go.RowKit
variable (A1 A2 A3 A4 : Option Addr) (c1 c2 c3 c4 : Nat) (f : Pl.Fld)
attribute [-go_sem] Builtin.append_ run_equalIn_agg
structure DSt (w W:World):Prop where
 below:Below w.heap.size w W
 sz:w.heap.size+2<=W.heap.size
 ke:W.heap[w.heap.size+1]?=some (.cells #[.int .i64 0] 29 (0,0))
theorem DSt.grown {w W W':World}{b:Nat}(h:DSt w W)(hg:W.grownBy W' (some b))(hb:w.heap.size+2<=b):DSt w W':=
 ⟨h.below.grown hg h.below.size (fun k e=>by cases e;omega),Nat.le_trans h.sz hg.size,(hg.block _ (by have:=h.sz;omega) (by simp;omega)).trans h.ke⟩
theorem DSt.up {w W W':World}(h:DSt w W)(hb:Below W.heap.size W W'):DSt w W':=
 ⟨h.below.trans (hb.mono h.below.size),Nat.le_trans h.sz hb.size,(hb.block _ (by have:=h.sz;omega)).trans h.ke⟩
theorem DSt.alloc {w W:World}(h:DSt w W)(o:Obj):DSt w (W.alloc o):=h.up ((Below.refl _ W).alloc (Nat.le_refl _) o)
end Go.Proofs.YtgbpekeoegfjpaaGreatDoor
set_option maxRecDepth 100000
namespace Go.Proofs.YtgbpekeoegfjpaaGreatDoor
open Go.RowKit Go.Shelf
variable (A1 A2 A3 A4 : Option Addr) (c1 c2 c3 c4 : Nat) (f : Pl.Fld)
attribute [-go_sem] Builtin.append_ run_equalIn_agg
attribute [-go_sem] loadVar
attribute [local go_sem] lv_int lv_bool lv_u8 lv_string lv_vars lv_errno lv_deds
theorem lv_calls (a:Addr)(w:World):(loadVar 88 a).run Tryz.prog w=(load a).run Tryz.prog w:=lv_scalar Tryz.underlying88 rfl a w
attribute [local go_sem] lv_calls
theorem DInv.few {bd:Nat}{l:List (Pl.Ded×Option Addr×Nat)}{W:World}{v:Value}(h:DInv bd l W v):l.length<=maxLen:=by
 rcases h.row.2 with ⟨_,h2⟩|⟨g,cap,cur,_,_,_,h3,h4,_⟩
 ·omega
 ·omega
namespace Pl
variable (A1 A2 A3 A4 : Option Addr) (c1 c2 c3 c4 : Nat) (f : Pl.Fld)
end Pl
end Go.Proofs.YtgbpekeoegfjpaaGreatDoor
set_option maxRecDepth 100000
namespace Go.Proofs.YtgbpekeoegfjpaaGreatDoor
open Go.RowKit Go.Shelf
attribute [local go_sem] Oper.semAt_some
attribute [-go_sem] storeVar
namespace Pl
end Pl
abbrev Cals := @Seg Pl.Cal encCl 13
structure DedS (w:World)(B:Nat)(A:Option Addr)(l:List (Pl.Ded×Option Addr×Nat)):Prop where
 row:Dds w B A l
 own: ∀x∈l,Cals w B x.2.1 x.1.calls
structure DG (A1 A2 A3 A4:Option Addr)(c1 c2 c3 c4:Nat)(f:Pl.Fld)(w:World)(N:Nat)(src:ByteArray)(ds:List Pl.Ded)(W:World):Prop where
 below:Below w.heap.size w W
 lt:w.heap.size+3<=N
 sz:N+4<=W.heap.size
 kf:W.heap[w.heap.size]?=some (.cells (fq A1 A2 A3 A4 c1 c2 c3 c4 f) 28 (0,0))
 r1:W.heap[w.heap.size+1]?=some (.cells #[.slice none 0 0] 38 (0,0))
 r2:W.heap[w.heap.size+2]?=some (.cells (i2 0 0) 31 (0,0))
 dd: ∃l v,l.map (·.1)=ds∧DInv N l W v∧ ∀i,Dx N v l i->i=N∨N+5<=i
 ks:W.heap[N+1]?=some (.cells #[.string src] 9 (0,0))
section
variable {A1 A2 A3 A4 : Option Addr} {c1 c2 c3 c4 : Nat} {f : Pl.Fld} {w : World} {N : Nat} {src : ByteArray} {ds : List Pl.Ded} {W W' : World}
theorem DG.grow (h:DG A1 A2 A3 A4 c1 c2 c3 c4 f w N src ds W)(hb:Below W.heap.size W W'):DG A1 A2 A3 A4 c1 c2 c3 c4 f w N src ds W':=by
 obtain⟨h1,h2,h3,h4,h5,h6,⟨l,v,hl,hD,hx⟩,h8⟩:=h
 exact⟨h1.trans (hb.mono h1.size),h2,Nat.le_trans h3 hb.size,(hb.block _ (by omega)).trans h4,(hb.block _ (by omega)).trans h5,(hb.block _ (by omega)).trans h6,⟨l,v,hl,hD.below hb,hx⟩,(hb.block _ (by omega)).trans h8⟩
theorem DG.put {o:Obj}(h:DG A1 A2 A3 A4 c1 c2 c3 c4 f w N src ds W):DG A1 A2 A3 A4 c1 c2 c3 c4 f w N src ds (W.putObj (N+3) o):=by
 obtain⟨h1,h2,h3,h4,h5,h6,⟨l,v,hl,hD,hx⟩,h8⟩:=h
 have hg:=grownBy_putObj' W (N+3) o
 exact⟨h1.grown hg h1.size (fun k e=>by cases e;omega),h2,by have:=hg.size;omega,(World.putObj_heap_other (by omega)).trans h4,(World.putObj_heap_other (by omega)).trans h5,(World.putObj_heap_other (by omega)).trans h6,
  ⟨l,v,hl,hD.kept hg (fun e=>by have:=hx _ e;omega),hx⟩,(World.putObj_heap_other (by omega)).trans h8⟩
theorem DG.next {l:List (Pl.Ded×Option Addr×Nat)}{v:Value}(h:DG A1 A2 A3 A4 c1 c2 c3 c4 f w N src ds W)(h5:N+5<=W.heap.size)(hx: ∀i,Dx N v l i->i=N∨N+5<=i)(hB:BelowE N (Dx N v l) W W'){ds':List Pl.Ded}{l':List (Pl.Ded×Option Addr×Nat)}{v':Value}(hl:l'.map (·.1)=ds')(hD:DInv N l' W' v')
  (hN: ∀i,Dx N v' l' i->Dx N v l i∨W.heap.size<=i):DG A1 A2 A3 A4 c1 c2 c3 c4 f w N src ds' W':=by
 obtain⟨g1,g2,g3,g4,g5,g6,_,g8⟩:=h
 refine⟨g1.trans (hB.b.mono (by omega)),g2,by have:=hB.b.size;omega,(hB.b.block _ (by omega)).trans g4,(hB.b.block _ (by omega)).trans g5,(hB.b.block _ (by omega)).trans g6,⟨l',v',hl,hD,fun i hi=> ?_⟩,(hB.k _ (by omega) (fun e=>by have:=hx _ e;omega)).trans g8⟩
 rcases hN i hi with h|h
 ·exact hx i h
 ·exact .inr (by omega)
end
structure SD where
 ds:List Pl.Ded
 on:Bool
 pend:Option LX
structure JD (A1 A2 A3 A4:Option Addr)(c1 c2 c3 c4:Nat)(f:Pl.Fld)(w:World)(N:Nat)(src:ByteArray)(s:SD)(W:World):Prop where
 di:DG A1 A2 A3 A4 c1 c2 c3 c4 f w N src s.ds W
 off:s.on=false->W.heap.size=N+4
 row:s.on=true->W.heap[N+4]?=some (.cells ((Pl.splitV 10 src).map Value.string).toArray 9 (0,0))
 pend: ∀x,s.pend=some x->Nms W W.heap.size (some ⟨x.2.1,0,none⟩) x.2.2.2∧x.2.2.2.length<=x.2.2.1∧Sizes x.2.2.2∧x.2.2.2≠ []
theorem JD.put {A1 A2 A3 A4:Option Addr}{c1 c2 c3 c4:Nat}{f:Pl.Fld}{w:World}{N:Nat}{src:ByteArray}{s:SD}{W:World}{r:Loop}(r':Loop)(h:JD A1 A2 A3 A4 c1 c2 c3 c4 f w N src s W)(hl:W.heap[N+3]?=some (.loop r)):JD A1 A2 A3 A4 c1 c2 c3 c4 f w N src s (W.putObj (N+3) (.loop r')):=by
 obtain⟨h1,h2,h3,h4⟩:=h
 have hs:(W.putObj (N+3) (.loop r')).heap.size=W.heap.size:=by simp[World.putObj]
 refine⟨h1.put,fun e=>hs.trans (h2 e),fun e=>(World.putObj_heap_other (by omega)).trans (h3 e),fun x hx=> ?_⟩
 obtain⟨q1,q2⟩:=h4 x hx
 rw[hs]
 have hlt:=(lO hl)
 refine⟨q1.keep fun p hp=> ?_,q2⟩
 by_cases e:p.block=N+3
 ·have e1:(W.putObj (N+3) (.loop r')).heap[p.block]?=some (.loop r'):=by rw[e];exact World.putObj_heap_same hlt
  have e2:W.heap[p.block]?=some (.loop r):=by rw[e];exact hl
  simp[World.cell?,e1,e2]
 ·exact World.cell?_of_block (World.putObj_heap_other (by omega))
structure XE (w:World)(N:Nat)(E:Int)(x:LX)(W:World):Prop where
 below:Below w.heap.size w W
 lt:w.heap.size+3<=N
 r1:W.heap[w.heap.size+1]?=some (.cells #[.slice none 0 0] 38 (0,0))
 r2:W.heap[w.heap.size+2]?=some (.cells (i2 E (x.1:Int)) 31 (0,0))
def IxD (f:Pl.Fld)(w:World)(N:Nat)(s:SD)(x:LX)(W:World):Prop:= ∃E,Pl.deedLine f s.ds x.2.2.2=.error E∧XE w N E x W
theorem IxD.put {f:Pl.Fld}{w:World}{N:Nat}{s:SD}{x:LX}{W:World}{o':Obj}(h:IxD f w N s x W):IxD f w N s x (W.putObj (N+3) o'):=by
 obtain⟨E,h0,h1,hl,h3,h4⟩:=h
 exact⟨E,h0,h1.grown (grownBy_putObj' W (N+3) o') h1.size (fun k e=>by cases e;omega),hl,(World.putObj_heap_other (by omega)).trans h3,(World.putObj_heap_other (by omega)).trans h4⟩
end Go.Proofs.YtgbpekeoegfjpaaGreatDoor
set_option maxRecDepth 100000
namespace Go.Proofs.YtgbpekeoegfjpaaGreatDoor
open Go.RowKit
theorem Dds.ld {w:World}{B:Nat}{A:Option Addr}{l:List (Pl.Ded×Option Addr×Nat)}(h:Dds w B A l){k:Nat}(hk:k<l.length):
  ∃b off,A=some ⟨b,off,none⟩∧b<B∧ ∀W,Below B w W->(loadVar 90 ⟨b,off+k*4,none⟩).run Tryz.prog W=.ok (.agg #[.string l[k].1.name,.int .i64 l[k].1.year,.int .i64 l[k].1.rank,.slice l[k].2.1 l[k].1.calls.length l[k].2.2]) W:=by
 obtain⟨b,off,hA,hb,hc⟩:=Seg.at_ h hk
 exact⟨b,off,hA,hb,fun W hW=>run_loadVar_mid W b (off+k*4) _ (encDd l[k]) _ (fun j v hv=>(hW.cell (p:=⟨b,off+k*4+j,none⟩) hb).trans (hc j v hv)) Tryz.underlying90 rfl (by kernel_rfl)⟩
theorem Cals.ld {w:World}{B:Nat}{A:Option Addr}{l:List Pl.Cal}(h:Cals w B A l){k:Nat}(hk:k<l.length):
  ∃b off,A=some ⟨b,off,none⟩∧b<B∧ ∀W,Below B w W->(loadVar 48 ⟨b,off+k*13,none⟩).run Tryz.prog W=.ok (.agg #[.int .u8 (l[k].kind:Int),.int .i64 l[k].lim,.int .i64 l[k].oth,.int .i64 l[k].fr,.int .i64 l[k].till,.int .i64 l[k].size,.int .i64 l[k].er,.int .i64 l[k].crs.b,.int .i64 l[k].crs.n,.int .i64 l[k].crs.l,.int .i64 l[k].crs.y,.int .i64 l[k].crs.x,.int .i64 l[k].crs.s]) W:=by
 obtain⟨b,off,hA,hb,hc⟩:=Seg.at_ h hk
 exact⟨b,off,hA,hb,fun W hW=>run_loadVar_mid W b (off+k*13) _ (encCl l[k]) _ (fun j v hv=>(hW.cell (p:=⟨b,off+k*13+j,none⟩) hb).trans (hc j v hv)) Tryz.underlying48 rfl (by kernel_rfl)⟩
attribute [-go_sem] loadVar run_equalIn_agg
attribute [local go_sem] lv_int lv_bool lv_u8 lv_string lv_deds lv_calls
end Go.Proofs.YtgbpekeoegfjpaaGreatDoor
set_option maxRecDepth 100000
namespace Go.Proofs.YtgbpekeoegfjpaaGreatDoor
open Go.RowKit
variable (A1 A2 A3 A4 : Option Addr) (c1 c2 c3 c4 : Nat) (f : Pl.Fld)
attribute [-go_sem] loadVar storeVar run_equalIn_agg
attribute [local go_sem] lv_int lv_bool lv_u8 lv_string lv_calls lv_errno
set_option maxHeartbeats 8000000 in
theorem ded_many (x:Pl.Ded×Option Addr×Nat)(w:World)(_hf:FldS w w.heap.size A1 A2 A3 A4 f)(_hm:Small f)(_hc:Caps c1 c2 c3 c4 f)(_hF:Pl.fieldE f=0)(_hcl:Cals w w.heap.size x.2.1 x.1.calls)(_hk: ∀c∈x.1.calls,c.kind<=255)(_hn:x.1.name.size<=100000)(h:20<x.1.calls.length):
  Calls Tryz.prog 123 #[.agg (fq A1 A2 A3 A4 c1 c2 c3 c4 f),.agg #[.string x.1.name,.int .i64 x.1.year,.int .i64 x.1.rank,.slice x.2.1 x.1.calls.length x.2.2]] w fun e w'=>e=.returned (.int .i64 (Pl.dedE f x.1))∧Below w.heap.size w w':=by
 have kf:=heap_alloc2_old w (.cells (fq A1 A2 A3 A4 c1 c2 c3 c4 f) 28) (.cells #[.string x.1.name,.int .i64 x.1.year,.int .i64 x.1.rank,.slice x.2.1 x.1.calls.length x.2.2] 90)
 have kd:=heap_alloc2_new w (.cells (fq A1 A2 A3 A4 c1 c2 c3 c4 f) 28) (.cells #[.string x.1.name,.int .i64 x.1.year,.int .i64 x.1.rank,.slice x.2.1 x.1.calls.length x.2.2] 90)
 have hb0:Below w.heap.size w ((w.alloc (.cells (fq A1 A2 A3 A4 c1 c2 c3 c4 f) 28)).alloc (.cells #[.string x.1.name,.int .i64 x.1.year,.int .i64 x.1.rank,.slice x.2.1 x.1.calls.length x.2.2] 90)):=((Below.refl _ w).alloc (Nat.le_refl _) _).alloc (by simp) _
 obtain⟨hcf,hff⟩:=blk_cells kf
 obtain⟨hcd,hfd⟩:=blk_cells kd
 have l01:=ld_row kf Tryz.underlying28 rfl info_fld
 have HV:Hid (Pl.dedE f x.1=2):=Lib.hid (by unfold Pl.dedE;rw[if_pos h])
 have n1:(20:Int)<(x.1.calls.length:Int):=by omega
 go_enter Tryz.func123,Tryz.ntmps123
 go_wp2
 go_ret
 exact⟨by rw[HV.out];rfl,hb0⟩
set_option maxHeartbeats 8000000 in
theorem ded_name (x:Pl.Ded×Option Addr×Nat)(w:World)(_hf:FldS w w.heap.size A1 A2 A3 A4 f)(_hm:Small f)(_hc:Caps c1 c2 c3 c4 f)(_hF:Pl.fieldE f=0)(_hcl:Cals w w.heap.size x.2.1 x.1.calls)(_hk: ∀c∈x.1.calls,c.kind<=255)(hn:x.1.name.size<=100000)(h: ¬20<x.1.calls.length)(hN:Pl.isName x.1.name=false):
  Calls Tryz.prog 123 #[.agg (fq A1 A2 A3 A4 c1 c2 c3 c4 f),.agg #[.string x.1.name,.int .i64 x.1.year,.int .i64 x.1.rank,.slice x.2.1 x.1.calls.length x.2.2]] w fun e w'=>e=.returned (.int .i64 (Pl.dedE f x.1))∧Below w.heap.size w w':=by
 have kf:=heap_alloc2_old w (.cells (fq A1 A2 A3 A4 c1 c2 c3 c4 f) 28) (.cells #[.string x.1.name,.int .i64 x.1.year,.int .i64 x.1.rank,.slice x.2.1 x.1.calls.length x.2.2] 90)
 have kd:=heap_alloc2_new w (.cells (fq A1 A2 A3 A4 c1 c2 c3 c4 f) 28) (.cells #[.string x.1.name,.int .i64 x.1.year,.int .i64 x.1.rank,.slice x.2.1 x.1.calls.length x.2.2] 90)
 have hb0:Below w.heap.size w ((w.alloc (.cells (fq A1 A2 A3 A4 c1 c2 c3 c4 f) 28)).alloc (.cells #[.string x.1.name,.int .i64 x.1.year,.int .i64 x.1.rank,.slice x.2.1 x.1.calls.length x.2.2] 90)):=((Below.refl _ w).alloc (Nat.le_refl _) _).alloc (by simp) _
 obtain⟨hcf,hff⟩:=blk_cells kf
 obtain⟨hcd,hfd⟩:=blk_cells kd
 have l01:=ld_row kf Tryz.underlying28 rfl info_fld
 have HV:Hid (Pl.dedE f x.1=4):=Lib.hid (by unfold Pl.dedE;rw[if_neg h,if_pos hN])
 have n1: ¬(20:Int)<(x.1.calls.length:Int):=by omega
 have HN:=Lib.hid hN
 clear hN
 go_enter Tryz.func123,Tryz.ntmps123
 go_wp2_with (go_at_call 82;refine(isName_a _ _ hn).mono ?_;rintro e w' ⟨rfl,rfl⟩;rw[HN.out])
 go_ret
 exact⟨by rw[HV.out];rfl,hb0⟩
set_option maxHeartbeats 8000000 in
theorem ded_date (x:Pl.Ded×Option Addr×Nat)(w:World)(_hf:FldS w w.heap.size A1 A2 A3 A4 f)(_hm:Small f)(_hc:Caps c1 c2 c3 c4 f)(_hF:Pl.fieldE f=0)(_hcl:Cals w w.heap.size x.2.1 x.1.calls)(_hk: ∀c∈x.1.calls,c.kind<=255)(hn:x.1.name.size<=100000)(h: ¬20<x.1.calls.length)(hN:Pl.isName x.1.name=true)(hD:(Pl.inB x.1.year 1 3000&&Pl.inB x.1.rank 0 1000)=false):
  Calls Tryz.prog 123 #[.agg (fq A1 A2 A3 A4 c1 c2 c3 c4 f),.agg #[.string x.1.name,.int .i64 x.1.year,.int .i64 x.1.rank,.slice x.2.1 x.1.calls.length x.2.2]] w fun e w'=>e=.returned (.int .i64 (Pl.dedE f x.1))∧Below w.heap.size w w':=by
 have kf:=heap_alloc2_old w (.cells (fq A1 A2 A3 A4 c1 c2 c3 c4 f) 28) (.cells #[.string x.1.name,.int .i64 x.1.year,.int .i64 x.1.rank,.slice x.2.1 x.1.calls.length x.2.2] 90)
 have kd:=heap_alloc2_new w (.cells (fq A1 A2 A3 A4 c1 c2 c3 c4 f) 28) (.cells #[.string x.1.name,.int .i64 x.1.year,.int .i64 x.1.rank,.slice x.2.1 x.1.calls.length x.2.2] 90)
 have hb0:Below w.heap.size w ((w.alloc (.cells (fq A1 A2 A3 A4 c1 c2 c3 c4 f) 28)).alloc (.cells #[.string x.1.name,.int .i64 x.1.year,.int .i64 x.1.rank,.slice x.2.1 x.1.calls.length x.2.2] 90)):=((Below.refl _ w).alloc (Nat.le_refl _) _).alloc (by simp) _
 obtain⟨hcf,hff⟩:=blk_cells kf
 obtain⟨hcd,hfd⟩:=blk_cells kd
 have l01:=ld_row kf Tryz.underlying28 rfl info_fld
 have HV:Hid (Pl.dedE f x.1=1):=Lib.hid (by unfold Pl.dedE Pl.datedB;rw[if_neg h,if_neg (by rw[hN];decide),if_pos hD])
 have n1: ¬(20:Int)<(x.1.calls.length:Int):=by omega
 have HN:=Lib.hid hN
 have HD:=Lib.hid hD
 clear hN hD
 go_enter Tryz.func123,Tryz.ntmps123
 go_wp2_with (first|(go_at_call 82;refine(isName_a _ _ hn).mono ?_;rintro e w' ⟨rfl,rfl⟩;rw[HN.out])|(go_at_call 160;refine(dated_a _ _ _).mono ?_;rintro e w' ⟨rfl,rfl⟩;rw[HD.out]))
 go_ret
 exact⟨by rw[HV.out];rfl,hb0⟩
set_option maxHeartbeats 8000000 in
theorem ded_calls (x:Pl.Ded×Option Addr×Nat)(w:World)(hf:FldS w w.heap.size A1 A2 A3 A4 f)(hm:Small f)(hc:Caps c1 c2 c3 c4 f)(hF:Pl.fieldE f=0)(hcl:Cals w w.heap.size x.2.1 x.1.calls)(hk: ∀c∈x.1.calls,c.kind<=255)(hn:x.1.name.size<=100000)(h: ¬20<x.1.calls.length)(hN:Pl.isName x.1.name=true)(hD:(Pl.inB x.1.year 1 3000&&Pl.inB x.1.rank 0 1000)=true):
  Calls Tryz.prog 123 #[.agg (fq A1 A2 A3 A4 c1 c2 c3 c4 f),.agg #[.string x.1.name,.int .i64 x.1.year,.int .i64 x.1.rank,.slice x.2.1 x.1.calls.length x.2.2]] w fun e w'=>e=.returned (.int .i64 (Pl.dedE f x.1))∧Below w.heap.size w w':=by
 have kf:=heap_alloc2_old w (.cells (fq A1 A2 A3 A4 c1 c2 c3 c4 f) 28) (.cells #[.string x.1.name,.int .i64 x.1.year,.int .i64 x.1.rank,.slice x.2.1 x.1.calls.length x.2.2] 90)
 have kd:=heap_alloc2_new w (.cells (fq A1 A2 A3 A4 c1 c2 c3 c4 f) 28) (.cells #[.string x.1.name,.int .i64 x.1.year,.int .i64 x.1.rank,.slice x.2.1 x.1.calls.length x.2.2] 90)
 have hb0:Below w.heap.size w ((w.alloc (.cells (fq A1 A2 A3 A4 c1 c2 c3 c4 f) 28)).alloc (.cells #[.string x.1.name,.int .i64 x.1.year,.int .i64 x.1.rank,.slice x.2.1 x.1.calls.length x.2.2] 90)):=((Below.refl _ w).alloc (Nat.le_refl _) _).alloc (by simp) _
 obtain⟨hcf,hff⟩:=blk_cells kf
 obtain⟨hcd,hfd⟩:=blk_cells kd
 have l01:=ld_row kf Tryz.underlying28 rfl info_fld
 have HV:Hid (Pl.dedE f x.1=Pl.callsE f x.1.year x.1.calls):=Lib.hid (by unfold Pl.dedE Pl.datedB;rw[if_neg h,if_neg (by rw[hN];decide),if_neg (by rw[hD];decide)])
 have n1: ¬(20:Int)<(x.1.calls.length:Int):=by omega
 have HN:=Lib.hid hN
 have HD:=Lib.hid hD
 clear hN hD
 obtain⟨⟨nm,yr,rk,cs⟩,P,pc⟩:=x
 simp only at*
 go_enter Tryz.func123,Tryz.ntmps123
 go_wp2_with (first|(go_at_call 82;refine(isName_a _ _ hn).mono ?_;rintro e w' ⟨rfl,rfl⟩;rw[HN.out])|(go_at_call 160;refine(dated_a _ _ _).mono ?_;rintro e w' ⟨rfl,rfl⟩;rw[HD.out]))
 obtain⟨W0,hW0⟩: ∃W0,((w.alloc (.cells (fq A1 A2 A3 A4 c1 c2 c3 c4 f) 28)).alloc (.cells #[.string nm,.int .i64 yr,.int .i64 rk,.slice P cs.length pc] 90))=W0:=⟨_,rfl⟩
 rw[hW0]at kf kd hb0 hcf hcd hff hfd l01 ⊢
 clear hW0 hcf hcd hff hfd l01
 have hal:w.heap.size+1<W0.heap.size:=(lO kd)
 obtain⟨E,hE⟩: ∃E,Pl.callsE f yr cs=E:=⟨_,rfl⟩
 rw[hE]at HV
 go_loopw [28] (fun i wr=> ∃(k:Nat),k<=cs.length∧i=.int .i64 k∧Hid (Pl.callsE f yr (cs.drop k)=E)∧Below W0.heap.size W0 wr) (fun i _=>cs.length-(intOf i).toNat)
 case atStart=>exact⟨0,by omega,rfl,Lib.hid (by rw[List.drop_zero];exact hE),Below.refl _ _⟩
 case round=>
  obtain⟨k,hkl,rfl,hdr,hall⟩:=hrel
  have kf:=(hall.block _ (by omega)).trans kf
  have kd:=(hall.block _ hal).trans kd
  obtain⟨hcd,hfd⟩:=blk_cells kd
  have hsz:=hall.size
  have hbw:Below w.heap.size w wr:=hb0.trans (hall.mono hb0.size)
  by_cases hlt:k<cs.length
  ·obtain⟨g,o,hP,hg,u0⟩:=Cals.ld hcl hlt
   have hkc:=hk _ (List.getElem_mem hlt)
   have hdr2:Hid (Pl.callsE f yr (cs[k]::cs.drop (k+1))=E):=Lib.hid (by rw[<-List.drop_eq_getElem_cons hlt];exact hdr.out)
   obtain⟨c,hcd0⟩: ∃c,cs[k]=c:=⟨_,rfl⟩
   rw[hcd0]at u0 hkc hdr2
   clear hcd0
   subst hP
   have e1:(0:Int)<=(k:Int):=by omega
   have e2:(k:Int)<(cs.length:Int):=by omega
   have u1:=u0 _ hbw
   have kn:=heap_alloc_new wr (.cells z13 48)
   obtain⟨W1,st1,k1,hg1⟩:=st_row (wr.alloc (.cells z13 48)) wr.heap.size 48 48 z13 (kq c) kn info_cal rfl (by simp[Value.oneCell'])
   have hx1:Below wr.heap.size wr W1:=((Below.refl _ wr).alloc (Nat.le_refl _) _).grown hg1 (by simp) (fun j e=>by cases e;exact Nat.le_refl _)
   have kf1:=(hx1.block _ (by omega)).trans kf
   have kd1:=(hx1.block _ (by omega)).trans kd
   have l1:=ld_row kf1 Tryz.underlying28 rfl info_fld
   have l2:=ld_row k1 Tryz.underlying48 rfl info_cal
   have hb1:Below w.heap.size w W1:=hbw.trans (hx1.mono (by omega))
   have hchk:=check_a A1 A2 A3 A4 c1 c2 c3 c4 f c W1 (hf.up hb1) hm hc hF hkc
   obtain⟨Ec,hEc⟩: ∃E,Pl.callE f c=E:=⟨_,rfl⟩
   rw[hEc]at hchk
   have HEc:=Lib.hid hEc
   have hln:=(lO k1)
   clear hEc kn u0
   by_cases h0:Ec=0
   ·subst h0
    clear hcd hfd
    have HR:Hid ((if c.kind=3∧c.crs.y≠yr then 1 else Pl.callsE f yr (cs.drop (k+1)))=E):=Lib.hid (by have:=hdr2.out;unfold Pl.callsE at this;rw[HEc.out,if_neg (by simp)]at this;exact this)
    by_cases h3:c.kind=3
    ·have b3:((c.kind:Int)==3)=true:=by simp;omega
     by_cases hyr:c.crs.y=yr
     ·have b4:(c.crs.y !=yr)=false:=by simpa using hyr
      have HN2:Hid (Pl.callsE f yr (cs.drop (k+1))=E):=Lib.hid (by have:=HR.out;rw[if_neg (fun h=>h.2 hyr)]at this;exact this)
      clear h3 hyr
      go_wp2_with (go_at_call 108;refine hchk.mono ?_;rintro e w2 ⟨rfl,hy⟩;have hb2:=hb1.trans (hy.mono hb1.size);have ha2:Below W0.heap.size W0 w2:=(hall.trans (hx1.mono hsz)).trans (hy.mono (by have:=hx1.size;omega));have k2:=(hy.block _ hln).trans k1;obtain⟨hck,hfk⟩:=blk_cells k2;have kd2:=kE hy kd1;obtain⟨hcd2,hfd2⟩:=blk_cells kd2)
      go_roundw
      case rel=>exact⟨k+1,by omega,by go_num,HN2,ha2⟩
      case measure=>first|(simp[intOf];done)|(simp[intOf];omega)
     ·have b4:(c.crs.y !=yr)=true:=by simpa using hyr
      have HN2:Hid (1=E):=Lib.hid (by have:=HR.out;rw[if_pos ⟨h3,hyr⟩]at this;exact this)
      clear h3 hyr
      go_wp2_with (go_at_call 108;refine hchk.mono ?_;rintro e w2 ⟨rfl,hy⟩;have hb2:=hb1.trans (hy.mono hb1.size);have ha2:Below W0.heap.size W0 w2:=(hall.trans (hx1.mono hsz)).trans (hy.mono (by have:=hx1.size;omega));have k2:=(hy.block _ hln).trans k1;obtain⟨hck,hfk⟩:=blk_cells k2;have kd2:=kE hy kd1;obtain⟨hcd2,hfd2⟩:=blk_cells kd2)
      go_ret
      exact⟨by rw[HV.out,<-HN2.out];rfl,hb2⟩
    ·have b3:((c.kind:Int)==3)=false:=by simp;omega
     have HN2:Hid (Pl.callsE f yr (cs.drop (k+1))=E):=Lib.hid (by have:=HR.out;rw[if_neg (fun h=>h3 h.1)]at this;exact this)
     clear h3
     go_wp2_with (go_at_call 108;refine hchk.mono ?_;rintro e w2 ⟨rfl,hy⟩;have hb2:=hb1.trans (hy.mono hb1.size);have ha2:Below W0.heap.size W0 w2:=(hall.trans (hx1.mono hsz)).trans (hy.mono (by have:=hx1.size;omega));have k2:=(hy.block _ hln).trans k1;obtain⟨hck,hfk⟩:=blk_cells k2;have kd2:=kE hy kd1;obtain⟨hcd2,hfd2⟩:=blk_cells kd2)
     go_roundw
     case rel=>exact⟨k+1,by omega,by go_num,HN2,ha2⟩
     case measure=>first|(simp[intOf];done)|(simp[intOf];omega)
   ·have hne:(Ec !=0)=true:=by simpa using h0
    have HR:Hid (Ec=E):=Lib.hid (by have:=hdr2.out;unfold Pl.callsE at this;rw[HEc.out,if_pos h0]at this;exact this)
    clear h0
    go_wp2_with (go_at_call 108;refine hchk.mono ?_;rintro e w2 ⟨rfl,hy⟩;have hb2:=hb1.trans (hy.mono hb1.size))
    go_ret
    exact⟨by rw[HV.out,<-HR.out];rfl,hb2⟩
  ·have HR:Hid (0=E):=Lib.hid (by have:=hdr.out;rw[List.drop_of_length_le (by omega)]at this;exact this)
   go_wp2
   go_ret
   exact⟨by rw[HV.out,<-HR.out];rfl,hbw⟩
end Go.Proofs.YtgbpekeoegfjpaaGreatDoor
set_option maxRecDepth 100000
namespace Go.Proofs.YtgbpekeoegfjpaaGreatDoor
open Go.RowKit
variable (A1 A2 A3 A4 : Option Addr) (c1 c2 c3 c4 : Nat) (f : Pl.Fld)
attribute [-go_sem] loadVar storeVar run_equalIn_agg
attribute [local go_sem] lv_int lv_bool lv_u8 lv_string lv_calls lv_errno
theorem ded_a (x:Pl.Ded×Option Addr×Nat)(w:World)(hf:FldS w w.heap.size A1 A2 A3 A4 f)(hm:Small f)(hc:Caps c1 c2 c3 c4 f)(hF:Pl.fieldE f=0)(hcl:Cals w w.heap.size x.2.1 x.1.calls)(hk: ∀c∈x.1.calls,c.kind<=255)(hn:x.1.name.size<=100000):
  Calls Tryz.prog 123 #[.agg (fq A1 A2 A3 A4 c1 c2 c3 c4 f),.agg #[.string x.1.name,.int .i64 x.1.year,.int .i64 x.1.rank,.slice x.2.1 x.1.calls.length x.2.2]] w fun e w'=>e=.returned (.int .i64 (Pl.dedE f x.1))∧Below w.heap.size w w':=by
 by_cases h:20<x.1.calls.length
 ·exact ded_many A1 A2 A3 A4 c1 c2 c3 c4 f x w hf hm hc hF hcl hk hn h
 cases hN:Pl.isName x.1.name with
 |false=>exact ded_name A1 A2 A3 A4 c1 c2 c3 c4 f x w hf hm hc hF hcl hk hn h hN
 |true=>
  cases hD:(Pl.inB x.1.year 1 3000&&Pl.inB x.1.rank 0 1000)with
  |false=>exact ded_date A1 A2 A3 A4 c1 c2 c3 c4 f x w hf hm hc hF hcl hk hn h hN hD
  |true=>exact ded_calls A1 A2 A3 A4 c1 c2 c3 c4 f x w hf hm hc hF hcl hk hn h hN hD
theorem isDed2_a (bx:Nat)(n:ByteArray)(y r:Int)(u v:Value)(nm:ByteArray)(y' r':Int)(w:World)(hb:w.heap[bx]?=some (.cells #[.string n,.int .i64 y,.int .i64 r,v] 90 (0,0))):
  Calls Tryz.prog 125 #[.agg #[.string nm,.int .i64 y',.int .i64 r',u],.pointer (some ⟨bx,0,none⟩)] w fun e w'=>e=.returned (.bool (decide (nm=n)))∧Below w.heap.size w w':=by
 obtain⟨hc,hf⟩:=blk_cells hb
 have hlt:=(lO hb)
 go_enter Tryz.func125,Tryz.ntmps125
 go_wp2
 go_ret
 exact⟨ret_bool (str_same nm n),by go_grown⟩
set_option maxHeartbeats 4000000 in
theorem CheckDeed_a (x:Pl.Ded×Option Addr×Nat)(w:World)(hf:FldS w w.heap.size A1 A2 A3 A4 f)(hm:Small f)(hc:Caps c1 c2 c3 c4 f)(hcl:Cals w w.heap.size x.2.1 x.1.calls)(hk: ∀c∈x.1.calls,c.kind<=255)(hn:x.1.name.size<=100000):
  Calls Tryz.prog 58 #[.agg (fq A1 A2 A3 A4 c1 c2 c3 c4 f),.agg #[.string x.1.name,.int .i64 x.1.year,.int .i64 x.1.rank,.slice x.2.1 x.1.calls.length x.2.2]] w fun e w'=>e=.returned (.int .i64 (Pl.deedE f x.1))∧Below w.heap.size w w':=by
 have kf:=heap_alloc2_old w (.cells (fq A1 A2 A3 A4 c1 c2 c3 c4 f) 28) (.cells #[.string x.1.name,.int .i64 x.1.year,.int .i64 x.1.rank,.slice x.2.1 x.1.calls.length x.2.2] 90)
 have kd:=heap_alloc2_new w (.cells (fq A1 A2 A3 A4 c1 c2 c3 c4 f) 28) (.cells #[.string x.1.name,.int .i64 x.1.year,.int .i64 x.1.rank,.slice x.2.1 x.1.calls.length x.2.2] 90)
 have hb0:Below w.heap.size w ((w.alloc (.cells (fq A1 A2 A3 A4 c1 c2 c3 c4 f) 28)).alloc (.cells #[.string x.1.name,.int .i64 x.1.year,.int .i64 x.1.rank,.slice x.2.1 x.1.calls.length x.2.2] 90)):=((Below.refl _ w).alloc (Nat.le_refl _) _).alloc (by simp) _
 have l01:=ld_row kf Tryz.underlying28 rfl info_fld
 obtain⟨E,hE⟩: ∃E,Pl.fieldE f=E:=⟨_,rfl⟩
 have HE:=Lib.hid hE
 by_cases h0:E=0
 ·subst h0
  have HV:Hid (Pl.deedE f x.1=Pl.dedE f x.1):=Lib.hid (by unfold Pl.deedE;rw[if_pos hE])
  clear hE
  go_enter Tryz.func58,Tryz.ntmps58
  go_wp2_with (first
   |(go_at_call 22;refine(checkField_h A1 A2 A3 A4 c1 c2 c3 c4 f 0 _ HE (hf.up hb0) hm hc).mono ?_;rintro e w1 ⟨rfl,hx⟩;have kf:=kE hx kf;have kd:=kE hx kd;have hb1:Below w.heap.size w w1:=hb0.trans (hx.mono hb0.size);clear l01;have l01:=ld_row kf Tryz.underlying28 rfl info_fld;have l02:=ld_row kd Tryz.underlying90 rfl (by kernel_rfl))
   |(go_at_call 123;refine(ded_a A1 A2 A3 A4 c1 c2 c3 c4 f x _ (hf.up hb1) hm hc HE.out (hcl.up hb1) hk hn).mono ?_;rintro e w2 ⟨rfl,hy⟩;have hb2:Below w.heap.size w w2:=hb1.trans (hy.mono hb1.size)))
  go_ret
  exact⟨by rw[HV.out];rfl,hb2⟩
 ·have HV:Hid (Pl.deedE f x.1=E):=Lib.hid (by unfold Pl.deedE;rw[if_neg (by rw[hE];exact h0),hE])
  have hne:(E !=0)=true:=by simpa using h0
  clear hE h0
  go_enter Tryz.func58,Tryz.ntmps58
  go_wp2_with (go_at_call 22;refine(checkField_h A1 A2 A3 A4 c1 c2 c3 c4 f E _ HE (hf.up hb0) hm hc).mono ?_;rintro e w1 ⟨rfl,hx⟩;have hb1:Below w.heap.size w w1:=hb0.trans (hx.mono hb0.size))
  go_ret
  exact⟨by rw[HV.out];rfl,hb1⟩
theorem Seg.take {α:Type}{enc:α->List Value}{size B:Nat}{w:World}{A:Option Addr}{l:List α}(h:Seg enc size w B A l)(k:Nat):Seg enc size w B A (l.take k):=by
 rcases h with h|⟨b,off,hA,hb,hc⟩
 ·exact .inl (by rw[h];simp)
 ·refine .inr ⟨b,off,hA,hb,fun j x hj i v hv=>hc j x ?_ i v hv⟩
  rw[List.getElem?_take]at hj
  split at hj
  ·exact hj
  ·cases hj
set_option maxHeartbeats 8000000 in
theorem CheckDeeds_ok (A:Option Addr)(c:Nat)(l:List (Pl.Ded×Option Addr×Nat))(w:World)(hf:FldS w w.heap.size A1 A2 A3 A4 f)(hm:Small f)(hc:Caps c1 c2 c3 c4 f)(hE:Pl.fieldE f=0)(hD:DedS w w.heap.size A l)(hlc:l.length<=c)(hk: ∀x∈l,∀c∈x.1.calls,c.kind<=255)(hn: ∀x∈l,x.1.name.size<=100000)(hl:l.length<=60):
  Calls Tryz.prog 48 #[.agg (fq A1 A2 A3 A4 c1 c2 c3 c4 f),.slice A l.length c] w fun e w'=>e=.returned (.int .i64 (Pl.dedsGo f [] (l.map (·.1))))∧Below w.heap.size w w':=by
 have kf:=heap_alloc_new w (.cells (fq A1 A2 A3 A4 c1 c2 c3 c4 f) 28)
 have hb0:Below w.heap.size w (w.alloc (.cells (fq A1 A2 A3 A4 c1 c2 c3 c4 f) 28)):=(Below.refl _ w).alloc (Nat.le_refl _) _
 have l01:=ld_row kf Tryz.underlying28 rfl info_fld
 have HE:=Lib.hid hE
 have n1: ¬(60:Int)<(l.length:Int):=by omega
 obtain⟨E,hV⟩: ∃E,Pl.dedsGo f [] (l.map (·.1))=E:=⟨_,rfl⟩
 rw[hV]
 clear hE
 go_enter Tryz.func48,Tryz.ntmps48
 go_wp2_with (go_at_call 22;refine(checkField_h A1 A2 A3 A4 c1 c2 c3 c4 f 0 _ HE (hf.up hb0) hm hc).mono ?_;rintro e w1 ⟨rfl,hx⟩;have kf:=kE hx kf;have hb1:Below w.heap.size w w1:=hb0.trans (hx.mono hb0.size);clear l01)
 have hal:w.heap.size<w1.heap.size:=(lO kf)
 go_loopw [19] (fun i wr=> ∃(k:Nat),k<=l.length∧i=.int .i64 k∧Hid (Pl.dedsGo f ((l.take k).map (·.1.name)) ((l.drop k).map (·.1))=E)∧Below w1.heap.size w1 wr) (fun i _=>l.length-(intOf i).toNat)
 case atStart=>exact⟨0,by omega,rfl,Lib.hid (by simpa using hV),Below.refl _ _⟩
 case round=>
  obtain⟨k,hkl,rfl,hdr,hall⟩:=hrel
  have kf2:=(hall.block _ hal).trans kf
  have hsz:=hall.size
  have hbw:Below w.heap.size w wr:=hb1.trans (hall.mono hb1.size)
  by_cases hlt:k<l.length
  ·obtain⟨g,o,hP,hg,u0⟩:=Dds.ld hD.row hlt
   have hmem:=List.getElem_mem hlt
   have hcl:=hD.own _ hmem
   have hkc:=hk _ hmem
   have hnc:=hn _ hmem
   have hdr2:Hid (Pl.dedsGo f ((l.take k).map (·.1.name)) (l[k].1::(l.drop (k+1)).map (·.1))=E):=Lib.hid (by
    have:=hdr.out;rw[List.drop_eq_getElem_cons hlt]at this;exact this)
   have htk:(l.take (k+1)).map (·.1.name)=(l.take k).map (·.1.name)++[l[k].1.name]:=by rw[List.take_add_one,List.getElem?_eq_getElem hlt,List.map_append];rfl
   have htl:(l.take k).length=k:=by rw[List.length_take];omega
   obtain⟨x,hxd⟩: ∃x,l[k]=x:=⟨_,rfl⟩
   rw[hxd]at u0 hcl hkc hnc hdr2 htk
   clear hxd hmem
   subst hP
   have e1:(0:Int)<=(k:Int):=by omega
   have e2:(k:Int)<(l.length:Int):=by omega
   have e3:(k:Int)<=(c:Int):=by omega
   have u1:=u0 _ hbw
   have kn:=heap_alloc_new wr (.cells #[.string ⟨#[]⟩,.int .i64 0,.int .i64 0,.slice none 0 0] 90)
   obtain⟨W1,st1,k1,hg1⟩:=st_row (wr.alloc (.cells #[.string ⟨#[]⟩,.int .i64 0,.int .i64 0,.slice none 0 0] 90)) wr.heap.size 90 90 #[.string ⟨#[]⟩,.int .i64 0,.int .i64 0,.slice none 0 0] #[.string x.1.name,.int .i64 x.1.year,.int .i64 x.1.rank,.slice x.2.1 x.1.calls.length x.2.2] kn (by kernel_rfl) rfl (by simp[Value.oneCell'])
   have hx1:Below wr.heap.size wr W1:=((Below.refl _ wr).alloc (Nat.le_refl _) _).grown hg1 (by simp) (fun j e=>by cases e;exact Nat.le_refl _)
   have kf3:=(hx1.block _ (by omega)).trans kf2
   have l1:=ld_row kf3 Tryz.underlying28 rfl info_fld
   have l2:=ld_row k1 Tryz.underlying90 rfl (by kernel_rfl)
   have hb2:Below w.heap.size w W1:=hbw.trans (hx1.mono (by omega))
   have hded:=ded_a A1 A2 A3 A4 c1 c2 c3 c4 f x W1 (hf.up hb2) hm hc HE.out (hcl.up hb2) hkc hnc
   have hln:=(lO k1)
   obtain⟨Ed,hEd⟩: ∃E,Pl.dedE f x.1=E:=⟨_,rfl⟩
   rw[hEd]at hded
   have HEd:=Lib.hid hEd
   clear hEd kn u0
   by_cases h0:Ed=0
   ·subst h0
    have HR:Hid ((if ((l.take k).map (·.1.name)).any (fun y=>decide (y=x.1.name))=true then 6 else Pl.dedsGo f ((l.take k).map (·.1.name)++[x.1.name]) ((l.drop (k+1)).map (·.1)))=E):=Lib.hid (by
     have:=hdr2.out;unfold Pl.dedsGo at this;rw[HEd.out,if_neg (by simp)]at this;exact this)
    have hcon:=fun(W:World) (hW:Below w.heap.size w W) (hkW:W.heap[wr.heap.size]?=some (.cells #[.string x.1.name,.int .i64 x.1.year,.int .i64 x.1.rank,.slice x.2.1 x.1.calls.length x.2.2] 90 (0,0)))=>
     conF_d (some ⟨g,o,none⟩) c (l.take k) 125 #[.pointer (some ⟨wr.heap.size,0,none⟩)] (fun y=>decide (y.1.name=x.1.name)) W ((hD.row.take k).up hW) (by omega) (enters_of (P:=Tryz.prog) Tryz.func125 (by kernel_rfl) rfl)
      (fun y _ W' hW'=>isDed2_a wr.heap.size x.1.name x.1.year x.1.rank (slv y.2 y.1.calls.length) _ y.1.name y.1.year y.1.rank W' ((hW'.block _ (lO hkW)).trans hkW))
    rw[htl]at hcon
    have hany:((l.take k).map (·.1.name)).any (fun y=>decide (y=x.1.name))=(l.take k).any fun y=>decide (y.1.name=x.1.name):=by rw[List.any_map];rfl
    obtain⟨q,hq⟩: ∃q,((l.take k).any fun y=>decide (y.1.name=x.1.name))=q:=⟨_,rfl⟩
    rw[hany,hq]at HR
    simp only[hq]at hcon
    have HTK:=Lib.hid htk
    clear hany hq htk hdr2
    cases q with
    | true=>
     have HR2:Hid (6=E):=Lib.hid (by have:=HR.out;rw[if_pos rfl]at this;exact this)
     go_wp2_with (first
      |(go_at_call 123;refine hded.mono ?_;rintro e w2 ⟨rfl,hy⟩;have hb3:=hb2.trans (hy.mono hb2.size);have k2:=(hy.block _ hln).trans k1)
      |(go_at_call 124;refine(hcon _ hb3 k2).mono ?_;rintro e w3 ⟨rfl,hz⟩;have hb4:=hb3.trans (hz.mono hb3.size)))
     go_ret
     exact⟨by rw[<-HR2.out];rfl,hb4⟩
    | false=>
     have HR2:Hid (Pl.dedsGo f ((l.take (k+1)).map (·.1.name)) ((l.drop (k+1)).map (·.1))=E):=Lib.hid (by have:=HR.out;rw[if_neg (by simp),<-HTK.out]at this;exact this)
     go_wp2_with (first
      |(go_at_call 123;refine hded.mono ?_;rintro e w2 ⟨rfl,hy⟩;have hb3:=hb2.trans (hy.mono hb2.size);have k2:=(hy.block _ hln).trans k1;have ha2:Below w1.heap.size w1 w2:=(hall.trans (hx1.mono hsz)).trans (hy.mono (by have:=hx1.size;omega)))
      |(go_at_call 124;refine(hcon _ hb3 k2).mono ?_;rintro e w3 ⟨rfl,hz⟩;have ha3:=ha2.trans (hz.mono ha2.size)))
     go_roundw
     case rel=>exact⟨k+1,by omega,by go_num,HR2,ha3⟩
     case measure=>first|(simp[intOf];done)|(simp[intOf];omega)
   ·have hne:(Ed !=0)=true:=by simpa using h0
    have HR:Hid (Ed=E):=Lib.hid (by have:=hdr2.out;unfold Pl.dedsGo at this;rw[HEd.out,if_pos h0]at this;exact this)
    clear h0
    go_wp2_with (go_at_call 123;refine hded.mono ?_;rintro e w2 ⟨rfl,hy⟩;have hb3:=hb2.trans (hy.mono hb2.size))
    go_ret
    exact⟨by rw[<-HR.out];rfl,hb3⟩
  ·have HR:Hid (0=E):=Lib.hid (by have:=hdr.out;rw[List.drop_of_length_le (by omega)]at this;exact this)
   go_wp2
   go_ret
   exact⟨by rw[<-HR.out];rfl,hbw⟩
end Go.Proofs.YtgbpekeoegfjpaaGreatDoor
set_option maxRecDepth 100000
namespace Go.Proofs.YtgbpekeoegfjpaaGreatDoor
open Go.RowKit
attribute [-go_sem] loadVar storeVar run_equalIn_agg
attribute [local go_sem] lv_int lv_bool lv_u8 lv_string lv_calls lv_errno
set_option maxHeartbeats 2000000 in
theorem CheckDeeds_a (A1 A2 A3 A4:Option Addr)(c1 c2 c3 c4:Nat)(f:Pl.Fld)(A:Option Addr)(c:Nat)(l:List (Pl.Ded×Option Addr×Nat))(w:World)(hf:FldS w w.heap.size A1 A2 A3 A4 f)(hm:Small f)(hc:Caps c1 c2 c3 c4 f)(hD:DedS w w.heap.size A l)(hlc:l.length<=c)(hk: ∀x∈l,∀c∈x.1.calls,c.kind<=255)(hn: ∀x∈l,x.1.name.size<=100000)(hl:l.length<=100000):
  Calls Tryz.prog 48 #[.agg (fq A1 A2 A3 A4 c1 c2 c3 c4 f),.slice A l.length c] w fun e w'=>e=.returned (.int .i64 (Pl.deedsE f (l.map (·.1))))∧Below w.heap.size w w':=by
 by_cases hE:Pl.fieldE f=0
 ·by_cases h60:60<l.length
  ·have HV:Hid (Pl.deedsE f (l.map (·.1))=2):=Lib.hid (by unfold Pl.deedsE;rw[if_pos hE,if_pos (by simpa using h60)])
   have HE:=Lib.hid hE
   have kf:=heap_alloc_new w (.cells (fq A1 A2 A3 A4 c1 c2 c3 c4 f) 28)
   have hb0:Below w.heap.size w (w.alloc (.cells (fq A1 A2 A3 A4 c1 c2 c3 c4 f) 28)):=(Below.refl _ w).alloc (Nat.le_refl _) _
   have l01:=ld_row kf Tryz.underlying28 rfl info_fld
   have n1:(60:Int)<(l.length:Int):=by omega
   clear hE
   go_enter Tryz.func48,Tryz.ntmps48
   go_wp2_with (go_at_call 22;refine(checkField_h A1 A2 A3 A4 c1 c2 c3 c4 f 0 _ HE (hf.up hb0) hm hc).mono ?_;rintro e w1 ⟨rfl,hx⟩;have hb1:Below w.heap.size w w1:=hb0.trans (hx.mono hb0.size))
   go_ret
   exact⟨by rw[HV.out];rfl,hb1⟩
  ·have HV:Pl.deedsE f (l.map (·.1))=Pl.dedsGo f [] (l.map (·.1)):=by unfold Pl.deedsE;rw[if_pos hE,if_neg (by simpa using h60)]
   rw[HV]
   exact CheckDeeds_ok A1 A2 A3 A4 c1 c2 c3 c4 f A c l w hf hm hc hE hD hlc hk hn (by omega)
 ·obtain⟨E,he⟩: ∃E,Pl.fieldE f=E:=⟨_,rfl⟩
  have HV:Hid (Pl.deedsE f (l.map (·.1))=E):=Lib.hid (by unfold Pl.deedsE;rw[if_neg hE,he])
  rw[he]at hE
  have HE:=Lib.hid he
  have hne:(E !=0)=true:=by simpa using hE
  have kf:=heap_alloc_new w (.cells (fq A1 A2 A3 A4 c1 c2 c3 c4 f) 28)
  have hb0:Below w.heap.size w (w.alloc (.cells (fq A1 A2 A3 A4 c1 c2 c3 c4 f) 28)):=(Below.refl _ w).alloc (Nat.le_refl _) _
  have l01:=ld_row kf Tryz.underlying28 rfl info_fld
  clear he hE
  go_enter Tryz.func48,Tryz.ntmps48
  go_wp2_with (go_at_call 22;refine(checkField_h A1 A2 A3 A4 c1 c2 c3 c4 f E _ HE (hf.up hb0) hm hc).mono ?_;rintro e w1 ⟨rfl,hx⟩;have hb1:Below w.heap.size w w1:=hb0.trans (hx.mono hb0.size))
  go_ret
  exact⟨by rw[HV.out];rfl,hb1⟩
end Go.Proofs.YtgbpekeoegfjpaaGreatDoor
set_option maxRecDepth 100000
namespace Go.Proofs.YtgbpekeoegfjpaaGreatDoor
open Go.RowKit
variable (A1 A2 A3 A4 : Option Addr) (c1 c2 c3 c4 : Nat) (f : Pl.Fld)
attribute [-go_sem] loadVar run_equalIn_agg
attribute [local go_sem] lv_int lv_bool lv_u8 lv_string lv_strings lv_stas
theorem limit_w (c:Pl.Cal)(n:Nat)(w:World)(hl:Nms w w.heap.size A2 f.li)(hn:n<f.li.length):
  Calls Tryz.prog 273 #[.agg (fcq A1 A2 A3 A4 c1 c2 c3 c4 f c),.int .i64 (n:Int)] w fun e w'=>e=.returned (.string f.li[n])∧Below w.heap.size w w':=by
 have kb:=heap_alloc_new w (.cells (fcq A1 A2 A3 A4 c1 c2 c3 c4 f c) 128)
 have hb0:Below w.heap.size w (w.alloc (.cells (fcq A1 A2 A3 A4 c1 c2 c3 c4 f c) 128)):=(Below.refl _ w).alloc (Nat.le_refl _) _
 obtain⟨hcb,hfb⟩:=blk_cells kb
 obtain⟨b,off,hA,hbB,q0⟩:=Nms.at1 (hl.below hb0) hn
 obtain⟨x,hx⟩: ∃x,f.li[n]=x:=⟨_,rfl⟩
 rw[hx]at q0 ⊢
 subst hA
 have e1:(0:Int)<=(n:Int):=by omega
 have e2:(n:Int)<(f.li.length:Int):=by omega
 go_enter Tryz.func273,Tryz.ntmps273
 go_wp2
 go_ret
 exact⟨rfl,hb0⟩
theorem station_w (c:Pl.Cal)(n:Nat)(w:World)(hl:Stas w w.heap.size A1 f.st)(hn:n<f.st.length):
  Calls Tryz.prog 274 #[.agg (fcq A1 A2 A3 A4 c1 c2 c3 c4 f c),.int .i64 (n:Int)] w fun e w'=>e=.returned (.string f.st[n].1)∧Below w.heap.size w w':=by
 have kb:=heap_alloc_new w (.cells (fcq A1 A2 A3 A4 c1 c2 c3 c4 f c) 128)
 have hb0:Below w.heap.size w (w.alloc (.cells (fcq A1 A2 A3 A4 c1 c2 c3 c4 f c) 128)):=(Below.refl _ w).alloc (Nat.le_refl _) _
 obtain⟨hcb,hfb⟩:=blk_cells kb
 obtain⟨b,off,hA,hbB,q0,q1⟩:=Stas.at2 (hl.below hb0) hn
 obtain⟨⟨x,y⟩,hx⟩: ∃x,f.st[n]=x:=⟨_,rfl⟩
 rw[hx]at q0 q1 ⊢
 simp only at q0 q1 ⊢
 subst hA
 have e1:(0:Int)<=(n:Int):=by omega
 have e2:(n:Int)<(f.st.length:Int):=by omega
 go_enter Tryz.func274,Tryz.ntmps274
 go_wp2
 go_ret
 exact⟨rfl,hb0⟩
def EndW (l:List ByteArray)(w:World)(e:Ending)(w':World):Prop:=
 ∃g,e=.returned (.slice (some ⟨g,0,none⟩) l.length l.length)∧w'.heap[g]?=some (.cells (l.map Value.string).toArray 9 (0,0))∧w.heap.size<=g∧Below w.heap.size w w'
set_option maxHeartbeats 8000000 in
theorem stoneWords_a (c:Pl.Cal)(w:World)(hE:Env w)(hf:FldS w w.heap.size A1 A2 A3 A4 f)(ilim ifr:Nat)(hlim:c.lim=(ilim:Int))(llim:ilim<f.li.length)(hfr:c.fr=(ifr:Int))(lfr:ifr<f.st.length)(bsize: -1000000<=c.size∧c.size<=1000000)(ber: -1000000<=c.er∧c.er<=1000000):
  Calls Tryz.prog 212 #[.agg (fcq A1 A2 A3 A4 c1 c2 c3 c4 f c)] w (EndW [f.li[ilim],f.st[ifr].1,Pl.spelt c.size,Pl.spelt c.er] w):=by
 have kb:=heap_alloc_new w (.cells (fcq A1 A2 A3 A4 c1 c2 c3 c4 f c) 128)
 have hb0:Below w.heap.size w (w.alloc (.cells (fcq A1 A2 A3 A4 c1 c2 c3 c4 f c) 128)):=(Below.refl _ w).alloc (Nat.le_refl _) _
 have plim:=fun W (hW:Below w.heap.size w W)=>limit_w A1 A2 A3 A4 c1 c2 c3 c4 f c ilim W (hf.li.up hW) llim
 obtain⟨alim,halim⟩: ∃a,f.li[ilim]=a:=⟨_,rfl⟩
 simp only[halim,<-hlim]at plim
 have pfr:=fun W (hW:Below w.heap.size w W)=>station_w A1 A2 A3 A4 c1 c2 c3 c4 f c ifr W (hf.st.up hW) lfr
 obtain⟨afr,hafr⟩: ∃a,f.st[ifr].1=a:=⟨_,rfl⟩
 simp only[hafr,<-hfr]at pfr
 have psize:=fun W (hW:Below w.heap.size w W)=>itoa_lib c.size W (hE.up hW) (by omega) (by omega)
 obtain⟨asize,hasize⟩: ∃a,Pl.spelt c.size=a:=⟨_,rfl⟩
 rw[show(⟨(Lib.itoa c.size).toArray⟩:ByteArray)=asize from hasize]at psize
 have per:=fun W (hW:Below w.heap.size w W)=>itoa_lib c.er W (hE.up hW) (by omega) (by omega)
 obtain⟨aer,haer⟩: ∃a,Pl.spelt c.er=a:=⟨_,rfl⟩
 rw[show(⟨(Lib.itoa c.er).toArray⟩:ByteArray)=aer from haer]at per
 rw[halim,hafr,hasize,haer]
 clear halim hafr hasize haer hlim llim hfr lfr bsize ber hf hE
 have whole:=fun(W:World) (k:W.heap[w.heap.size]?=some (.cells (fcq A1 A2 A3 A4 c1 c2 c3 c4 f c) 128 (0,0)))=>CBox.whole (CBox.mk (f:=f) (c:=c) (k:=(c.kind:Int)) k)
 go_enter Tryz.func212,Tryz.ntmps212
 go_wp2
 have kb:=(show(w.alloc (.cells (fcq A1 A2 A3 A4 c1 c2 c3 c4 f c) 128)).drew.heap[w.heap.size]?=_ from kb)
 have hall:=hb0.drew
 clear hb0
 go_region_held3 (fun W=>(loadVar 128 ⟨w.heap.size,0,none⟩).run Tryz.prog W=.ok (.agg (fcq A1 A2 A3 A4 c1 c2 c3 c4 f c)) W∧W.cell? ⟨w.heap.size,5,none⟩=some (.int .i64 c.lim)∧W.cell? ⟨w.heap.size,7,none⟩=some (.int .i64 c.fr)∧W.cell? ⟨w.heap.size,9,none⟩=some (.int .i64 c.size)∧W.cell? ⟨w.heap.size,10,none⟩=some (.int .i64 c.er)) (first|exact⟨whole _ kb,(blk_cells kb).1 5,(blk_cells kb).1 7,(blk_cells kb).1 9,(blk_cells kb).1 10⟩|exact⟨whole _ ((Below.heap_alloc _ _ _ (lO kb)).trans kb),(blk_cells ((Below.heap_alloc _ _ _ (lO kb)).trans kb)).1 5,(blk_cells ((Below.heap_alloc _ _ _ (lO kb)).trans kb)).1 7,(blk_cells ((Below.heap_alloc _ _ _ (lO kb)).trans kb)).1 9,(blk_cells ((Below.heap_alloc _ _ _ (lO kb)).trans kb)).1 10⟩) (first
  |(go_at_call 273;refine(plim _ hall).mono ?_;rintro e w1 ⟨rfl,hx⟩;have kb:=kE hx kb;have hall:=hall.trans (hx.mono hall.size);clear hx plim)
  |(go_at_call 274;refine(pfr _ hall).mono ?_;rintro e w1 ⟨rfl,hx⟩;have kb:=kE hx kb;have hall:=hall.trans (hx.mono hall.size);clear hx pfr)
  |(go_at_call 120;refine(psize _ hall).mono ?_;rintro e w1 ⟨rfl,hx⟩;have kb:=kE hx kb;have hall:=hall.trans (hx.mono hall.size);clear hx psize)
  |(go_at_call 120;refine(per _ hall).mono ?_;rintro e w1 ⟨rfl,hx⟩;have kb:=kE hx kb;have hall:=hall.trans (hx.mono hall.size);clear hx per))
 all_goals go_wp2
 all_goals go_ret
 all_goals exact⟨_,rfl,heap_alloc_new _ _,hall.size,hall.alloc hall.size _⟩
set_option maxHeartbeats 8000000 in
theorem widthWords_a (c:Pl.Cal)(w:World)(hE:Env w)(hf:FldS w w.heap.size A1 A2 A3 A4 f)(ilim ioth ifr:Nat)(hlim:c.lim=(ilim:Int))(llim:ilim<f.li.length)(hoth:c.oth=(ioth:Int))(loth:ioth<f.li.length)(hfr:c.fr=(ifr:Int))(lfr:ifr<f.st.length)(bsize: -1000000<=c.size∧c.size<=1000000)(ber: -1000000<=c.er∧c.er<=1000000):
  Calls Tryz.prog 214 #[.agg (fcq A1 A2 A3 A4 c1 c2 c3 c4 f c)] w (EndW [f.li[ilim],f.li[ioth],f.st[ifr].1,Pl.spelt c.size,Pl.spelt c.er] w):=by
 have kb:=heap_alloc_new w (.cells (fcq A1 A2 A3 A4 c1 c2 c3 c4 f c) 128)
 have hb0:Below w.heap.size w (w.alloc (.cells (fcq A1 A2 A3 A4 c1 c2 c3 c4 f c) 128)):=(Below.refl _ w).alloc (Nat.le_refl _) _
 have plim:=fun W (hW:Below w.heap.size w W)=>limit_w A1 A2 A3 A4 c1 c2 c3 c4 f c ilim W (hf.li.up hW) llim
 obtain⟨alim,halim⟩: ∃a,f.li[ilim]=a:=⟨_,rfl⟩
 simp only[halim,<-hlim]at plim
 have poth:=fun W (hW:Below w.heap.size w W)=>limit_w A1 A2 A3 A4 c1 c2 c3 c4 f c ioth W (hf.li.up hW) loth
 obtain⟨aoth,haoth⟩: ∃a,f.li[ioth]=a:=⟨_,rfl⟩
 simp only[haoth,<-hoth]at poth
 have pfr:=fun W (hW:Below w.heap.size w W)=>station_w A1 A2 A3 A4 c1 c2 c3 c4 f c ifr W (hf.st.up hW) lfr
 obtain⟨afr,hafr⟩: ∃a,f.st[ifr].1=a:=⟨_,rfl⟩
 simp only[hafr,<-hfr]at pfr
 have psize:=fun W (hW:Below w.heap.size w W)=>itoa_lib c.size W (hE.up hW) (by omega) (by omega)
 obtain⟨asize,hasize⟩: ∃a,Pl.spelt c.size=a:=⟨_,rfl⟩
 rw[show(⟨(Lib.itoa c.size).toArray⟩:ByteArray)=asize from hasize]at psize
 have per:=fun W (hW:Below w.heap.size w W)=>itoa_lib c.er W (hE.up hW) (by omega) (by omega)
 obtain⟨aer,haer⟩: ∃a,Pl.spelt c.er=a:=⟨_,rfl⟩
 rw[show(⟨(Lib.itoa c.er).toArray⟩:ByteArray)=aer from haer]at per
 rw[halim,haoth,hafr,hasize,haer]
 clear halim haoth hafr hasize haer hlim llim hoth loth hfr lfr bsize ber hf hE
 have whole:=fun(W:World) (k:W.heap[w.heap.size]?=some (.cells (fcq A1 A2 A3 A4 c1 c2 c3 c4 f c) 128 (0,0)))=>CBox.whole (CBox.mk (f:=f) (c:=c) (k:=(c.kind:Int)) k)
 go_enter Tryz.func214,Tryz.ntmps214
 go_wp2
 have kb:=(show(w.alloc (.cells (fcq A1 A2 A3 A4 c1 c2 c3 c4 f c) 128)).drew.heap[w.heap.size]?=_ from kb)
 have hall:=hb0.drew
 clear hb0
 go_region_held3 (fun W=>(loadVar 128 ⟨w.heap.size,0,none⟩).run Tryz.prog W=.ok (.agg (fcq A1 A2 A3 A4 c1 c2 c3 c4 f c)) W∧W.cell? ⟨w.heap.size,5,none⟩=some (.int .i64 c.lim)∧W.cell? ⟨w.heap.size,6,none⟩=some (.int .i64 c.oth)∧W.cell? ⟨w.heap.size,7,none⟩=some (.int .i64 c.fr)∧W.cell? ⟨w.heap.size,9,none⟩=some (.int .i64 c.size)∧W.cell? ⟨w.heap.size,10,none⟩=some (.int .i64 c.er)) (first|exact⟨whole _ kb,(blk_cells kb).1 5,(blk_cells kb).1 6,(blk_cells kb).1 7,(blk_cells kb).1 9,(blk_cells kb).1 10⟩|exact⟨whole _ ((Below.heap_alloc _ _ _ (lO kb)).trans kb),(blk_cells ((Below.heap_alloc _ _ _ (lO kb)).trans kb)).1 5,(blk_cells ((Below.heap_alloc _ _ _ (lO kb)).trans kb)).1 6,(blk_cells ((Below.heap_alloc _ _ _ (lO kb)).trans kb)).1 7,(blk_cells ((Below.heap_alloc _ _ _ (lO kb)).trans kb)).1 9,(blk_cells ((Below.heap_alloc _ _ _ (lO kb)).trans kb)).1 10⟩) (first
  |(go_at_call 273;refine(plim _ hall).mono ?_;rintro e w1 ⟨rfl,hx⟩;have kb:=kE hx kb;have hall:=hall.trans (hx.mono hall.size);clear hx plim)
  |(go_at_call 273;refine(poth _ hall).mono ?_;rintro e w1 ⟨rfl,hx⟩;have kb:=kE hx kb;have hall:=hall.trans (hx.mono hall.size);clear hx poth)
  |(go_at_call 274;refine(pfr _ hall).mono ?_;rintro e w1 ⟨rfl,hx⟩;have kb:=kE hx kb;have hall:=hall.trans (hx.mono hall.size);clear hx pfr)
  |(go_at_call 120;refine(psize _ hall).mono ?_;rintro e w1 ⟨rfl,hx⟩;have kb:=kE hx kb;have hall:=hall.trans (hx.mono hall.size);clear hx psize)
  |(go_at_call 120;refine(per _ hall).mono ?_;rintro e w1 ⟨rfl,hx⟩;have kb:=kE hx kb;have hall:=hall.trans (hx.mono hall.size);clear hx per))
 all_goals go_wp2
 all_goals go_ret
 all_goals exact⟨_,rfl,heap_alloc_new _ _,hall.size,hall.alloc hall.size _⟩
set_option maxHeartbeats 8000000 in
theorem alongWords_a (c:Pl.Cal)(w:World)(_hE:Env w)(hf:FldS w w.heap.size A1 A2 A3 A4 f)(ilim ioth ifr itill:Nat)(hlim:c.lim=(ilim:Int))(llim:ilim<f.li.length)(hoth:c.oth=(ioth:Int))(loth:ioth<f.li.length)(hfr:c.fr=(ifr:Int))(lfr:ifr<f.st.length)(htill:c.till=(itill:Int))(ltill:itill<f.st.length):
  Calls Tryz.prog 218 #[.agg (fcq A1 A2 A3 A4 c1 c2 c3 c4 f c)] w (EndW [f.li[ilim],f.li[ioth],f.st[ifr].1,f.st[itill].1] w):=by
 have kb:=heap_alloc_new w (.cells (fcq A1 A2 A3 A4 c1 c2 c3 c4 f c) 128)
 have hb0:Below w.heap.size w (w.alloc (.cells (fcq A1 A2 A3 A4 c1 c2 c3 c4 f c) 128)):=(Below.refl _ w).alloc (Nat.le_refl _) _
 have plim:=fun W (hW:Below w.heap.size w W)=>limit_w A1 A2 A3 A4 c1 c2 c3 c4 f c ilim W (hf.li.up hW) llim
 obtain⟨alim,halim⟩: ∃a,f.li[ilim]=a:=⟨_,rfl⟩
 simp only[halim,<-hlim]at plim
 have poth:=fun W (hW:Below w.heap.size w W)=>limit_w A1 A2 A3 A4 c1 c2 c3 c4 f c ioth W (hf.li.up hW) loth
 obtain⟨aoth,haoth⟩: ∃a,f.li[ioth]=a:=⟨_,rfl⟩
 simp only[haoth,<-hoth]at poth
 have pfr:=fun W (hW:Below w.heap.size w W)=>station_w A1 A2 A3 A4 c1 c2 c3 c4 f c ifr W (hf.st.up hW) lfr
 obtain⟨afr,hafr⟩: ∃a,f.st[ifr].1=a:=⟨_,rfl⟩
 simp only[hafr,<-hfr]at pfr
 have ptill:=fun W (hW:Below w.heap.size w W)=>station_w A1 A2 A3 A4 c1 c2 c3 c4 f c itill W (hf.st.up hW) ltill
 obtain⟨atill,hatill⟩: ∃a,f.st[itill].1=a:=⟨_,rfl⟩
 simp only[hatill,<-htill]at ptill
 rw[halim,haoth,hafr,hatill]
 clear halim haoth hafr hatill hlim llim hoth loth hfr lfr htill ltill hf
 have whole:=fun(W:World) (k:W.heap[w.heap.size]?=some (.cells (fcq A1 A2 A3 A4 c1 c2 c3 c4 f c) 128 (0,0)))=>CBox.whole (CBox.mk (f:=f) (c:=c) (k:=(c.kind:Int)) k)
 go_enter Tryz.func218,Tryz.ntmps218
 go_wp2
 have kb:=(show(w.alloc (.cells (fcq A1 A2 A3 A4 c1 c2 c3 c4 f c) 128)).drew.heap[w.heap.size]?=_ from kb)
 have hall:=hb0.drew
 clear hb0
 go_region_held3 (fun W=>(loadVar 128 ⟨w.heap.size,0,none⟩).run Tryz.prog W=.ok (.agg (fcq A1 A2 A3 A4 c1 c2 c3 c4 f c)) W∧W.cell? ⟨w.heap.size,5,none⟩=some (.int .i64 c.lim)∧W.cell? ⟨w.heap.size,6,none⟩=some (.int .i64 c.oth)∧W.cell? ⟨w.heap.size,7,none⟩=some (.int .i64 c.fr)∧W.cell? ⟨w.heap.size,8,none⟩=some (.int .i64 c.till)) (first|exact⟨whole _ kb,(blk_cells kb).1 5,(blk_cells kb).1 6,(blk_cells kb).1 7,(blk_cells kb).1 8⟩|exact⟨whole _ ((Below.heap_alloc _ _ _ (lO kb)).trans kb),(blk_cells ((Below.heap_alloc _ _ _ (lO kb)).trans kb)).1 5,(blk_cells ((Below.heap_alloc _ _ _ (lO kb)).trans kb)).1 6,(blk_cells ((Below.heap_alloc _ _ _ (lO kb)).trans kb)).1 7,(blk_cells ((Below.heap_alloc _ _ _ (lO kb)).trans kb)).1 8⟩) (first
  |(go_at_call 273;refine(plim _ hall).mono ?_;rintro e w1 ⟨rfl,hx⟩;have kb:=kE hx kb;have hall:=hall.trans (hx.mono hall.size);clear hx plim)
  |(go_at_call 273;refine(poth _ hall).mono ?_;rintro e w1 ⟨rfl,hx⟩;have kb:=kE hx kb;have hall:=hall.trans (hx.mono hall.size);clear hx poth)
  |(go_at_call 274;refine(pfr _ hall).mono ?_;rintro e w1 ⟨rfl,hx⟩;have kb:=kE hx kb;have hall:=hall.trans (hx.mono hall.size);clear hx pfr)
  |(go_at_call 274;refine(ptill _ hall).mono ?_;rintro e w1 ⟨rfl,hx⟩;have kb:=kE hx kb;have hall:=hall.trans (hx.mono hall.size);clear hx ptill))
 all_goals go_wp2
 all_goals go_ret
 all_goals exact⟨_,rfl,heap_alloc_new _ _,hall.size,hall.alloc hall.size _⟩
set_option maxHeartbeats 8000000 in
theorem levelWords_a (c:Pl.Cal)(w:World)(hE:Env w)(hf:FldS w w.heap.size A1 A2 A3 A4 f)(ilim ifr itill:Nat)(hlim:c.lim=(ilim:Int))(llim:ilim<f.li.length)(hfr:c.fr=(ifr:Int))(lfr:ifr<f.st.length)(htill:c.till=(itill:Int))(ltill:itill<f.st.length)(bsize: -1000000<=c.size∧c.size<=1000000)(ber: -1000000<=c.er∧c.er<=1000000):
  Calls Tryz.prog 220 #[.agg (fcq A1 A2 A3 A4 c1 c2 c3 c4 f c)] w (EndW [f.li[ilim],f.st[ifr].1,f.st[itill].1,Pl.spelt c.size,Pl.spelt c.er] w):=by
 have kb:=heap_alloc_new w (.cells (fcq A1 A2 A3 A4 c1 c2 c3 c4 f c) 128)
 have hb0:Below w.heap.size w (w.alloc (.cells (fcq A1 A2 A3 A4 c1 c2 c3 c4 f c) 128)):=(Below.refl _ w).alloc (Nat.le_refl _) _
 have plim:=fun W (hW:Below w.heap.size w W)=>limit_w A1 A2 A3 A4 c1 c2 c3 c4 f c ilim W (hf.li.up hW) llim
 obtain⟨alim,halim⟩: ∃a,f.li[ilim]=a:=⟨_,rfl⟩
 simp only[halim,<-hlim]at plim
 have pfr:=fun W (hW:Below w.heap.size w W)=>station_w A1 A2 A3 A4 c1 c2 c3 c4 f c ifr W (hf.st.up hW) lfr
 obtain⟨afr,hafr⟩: ∃a,f.st[ifr].1=a:=⟨_,rfl⟩
 simp only[hafr,<-hfr]at pfr
 have ptill:=fun W (hW:Below w.heap.size w W)=>station_w A1 A2 A3 A4 c1 c2 c3 c4 f c itill W (hf.st.up hW) ltill
 obtain⟨atill,hatill⟩: ∃a,f.st[itill].1=a:=⟨_,rfl⟩
 simp only[hatill,<-htill]at ptill
 have psize:=fun W (hW:Below w.heap.size w W)=>itoa_lib c.size W (hE.up hW) (by omega) (by omega)
 obtain⟨asize,hasize⟩: ∃a,Pl.spelt c.size=a:=⟨_,rfl⟩
 rw[show(⟨(Lib.itoa c.size).toArray⟩:ByteArray)=asize from hasize]at psize
 have per:=fun W (hW:Below w.heap.size w W)=>itoa_lib c.er W (hE.up hW) (by omega) (by omega)
 obtain⟨aer,haer⟩: ∃a,Pl.spelt c.er=a:=⟨_,rfl⟩
 rw[show(⟨(Lib.itoa c.er).toArray⟩:ByteArray)=aer from haer]at per
 rw[halim,hafr,hatill,hasize,haer]
 clear halim hafr hatill hasize haer hlim llim hfr lfr htill ltill bsize ber hf hE
 have whole:=fun(W:World) (k:W.heap[w.heap.size]?=some (.cells (fcq A1 A2 A3 A4 c1 c2 c3 c4 f c) 128 (0,0)))=>CBox.whole (CBox.mk (f:=f) (c:=c) (k:=(c.kind:Int)) k)
 go_enter Tryz.func220,Tryz.ntmps220
 go_wp2
 have kb:=(show(w.alloc (.cells (fcq A1 A2 A3 A4 c1 c2 c3 c4 f c) 128)).drew.heap[w.heap.size]?=_ from kb)
 have hall:=hb0.drew
 clear hb0
 go_region_held3 (fun W=>(loadVar 128 ⟨w.heap.size,0,none⟩).run Tryz.prog W=.ok (.agg (fcq A1 A2 A3 A4 c1 c2 c3 c4 f c)) W∧W.cell? ⟨w.heap.size,5,none⟩=some (.int .i64 c.lim)∧W.cell? ⟨w.heap.size,7,none⟩=some (.int .i64 c.fr)∧W.cell? ⟨w.heap.size,8,none⟩=some (.int .i64 c.till)∧W.cell? ⟨w.heap.size,9,none⟩=some (.int .i64 c.size)∧W.cell? ⟨w.heap.size,10,none⟩=some (.int .i64 c.er)) (first|exact⟨whole _ kb,(blk_cells kb).1 5,(blk_cells kb).1 7,(blk_cells kb).1 8,(blk_cells kb).1 9,(blk_cells kb).1 10⟩|exact⟨whole _ ((Below.heap_alloc _ _ _ (lO kb)).trans kb),(blk_cells ((Below.heap_alloc _ _ _ (lO kb)).trans kb)).1 5,(blk_cells ((Below.heap_alloc _ _ _ (lO kb)).trans kb)).1 7,(blk_cells ((Below.heap_alloc _ _ _ (lO kb)).trans kb)).1 8,(blk_cells ((Below.heap_alloc _ _ _ (lO kb)).trans kb)).1 9,(blk_cells ((Below.heap_alloc _ _ _ (lO kb)).trans kb)).1 10⟩) (first
  |(go_at_call 273;refine(plim _ hall).mono ?_;rintro e w1 ⟨rfl,hx⟩;have kb:=kE hx kb;have hall:=hall.trans (hx.mono hall.size);clear hx plim)
  |(go_at_call 274;refine(pfr _ hall).mono ?_;rintro e w1 ⟨rfl,hx⟩;have kb:=kE hx kb;have hall:=hall.trans (hx.mono hall.size);clear hx pfr)
  |(go_at_call 274;refine(ptill _ hall).mono ?_;rintro e w1 ⟨rfl,hx⟩;have kb:=kE hx kb;have hall:=hall.trans (hx.mono hall.size);clear hx ptill)
  |(go_at_call 120;refine(psize _ hall).mono ?_;rintro e w1 ⟨rfl,hx⟩;have kb:=kE hx kb;have hall:=hall.trans (hx.mono hall.size);clear hx psize)
  |(go_at_call 120;refine(per _ hall).mono ?_;rintro e w1 ⟨rfl,hx⟩;have kb:=kE hx kb;have hall:=hall.trans (hx.mono hall.size);clear hx per))
 all_goals go_wp2
 all_goals go_ret
 all_goals exact⟨_,rfl,heap_alloc_new _ _,hall.size,hall.alloc hall.size _⟩
end Go.Proofs.YtgbpekeoegfjpaaGreatDoor
set_option maxRecDepth 100000
namespace Go.Proofs.YtgbpekeoegfjpaaGreatDoor
open Go.RowKit
attribute [-go_sem] loadVar run_equalIn_agg
attribute [local go_sem] lv_int lv_bool lv_u8 lv_string lv_strings lv_stas
set_option maxHeartbeats 16000000 in
theorem courseWords_a (A1 A2 A3 A4:Option Addr)(c1 c2 c3 c4:Nat)(f:Pl.Fld)(c:Pl.Cal)(w:World)(hE:Env w)(hf:FldS w w.heap.size A1 A2 A3 A4 f)(ilim ifr itill:Nat)(hlim:c.lim=(ilim:Int))(llim:ilim<f.li.length)(hfr:c.fr=(ifr:Int))(lfr:ifr<f.st.length)(htill:c.till=(itill:Int))(ltill:itill<f.st.length)
  (bn: -1000000<=c.crs.n∧c.crs.n<=1000000) (bx: -1000000<=c.crs.x∧c.crs.x<=1000000) (bs: -1000000<=c.crs.s∧c.crs.s<=1000000):
  Calls Tryz.prog 216 #[.agg (fcq A1 A2 A3 A4 c1 c2 c3 c4 f c)] w (EndW [f.li[ilim],f.st[ifr].1,f.st[itill].1,Pl.lengthV c.crs.l,⟨#[98,121]⟩,Pl.quadB c.crs.b,⟨#[103,105,118,101]⟩,Pl.spelt c.crs.n,⟨#[119,101,97,114]⟩,Pl.spelt c.crs.x,⟨#[115,108,97,99,107]⟩,Pl.spelt c.crs.s] w):=by
 have kb0:=heap_alloc_new w (.cells (fcq A1 A2 A3 A4 c1 c2 c3 c4 f c) 128)
 have kb:=heap_alloc2_old w (.cells (fcq A1 A2 A3 A4 c1 c2 c3 c4 f c) 128) (.cells (cq c.crs) 46)
 have kx:=heap_alloc2_new w (.cells (fcq A1 A2 A3 A4 c1 c2 c3 c4 f c) 128) (.cells (cq c.crs) 46)
 have hb0:Below w.heap.size w ((w.alloc (.cells (fcq A1 A2 A3 A4 c1 c2 c3 c4 f c) 128)).alloc (.cells (cq c.crs) 46)):=((Below.refl _ w).alloc (Nat.le_refl _) _).alloc (by simp) _
 have l46:=CBox.crs (CBox.mk (f:=f) (c:=c) (k:=(c.kind:Int)) kb0)
 have plim:=fun W (hW:Below w.heap.size w W)=>limit_w A1 A2 A3 A4 c1 c2 c3 c4 f c ilim W (hf.li.up hW) llim
 obtain⟨ulim,halim⟩: ∃a,f.li[ilim]=a:=⟨_,rfl⟩
 simp only[halim,<-hlim]at plim
 have pfr:=fun W (hW:Below w.heap.size w W)=>station_w A1 A2 A3 A4 c1 c2 c3 c4 f c ifr W (hf.st.up hW) lfr
 obtain⟨ufr,hafr⟩: ∃a,f.st[ifr].1=a:=⟨_,rfl⟩
 simp only[hafr,<-hfr]at pfr
 have ptill:=fun W (hW:Below w.heap.size w W)=>station_w A1 A2 A3 A4 c1 c2 c3 c4 f c itill W (hf.st.up hW) ltill
 obtain⟨utill,hatill⟩: ∃a,f.st[itill].1=a:=⟨_,rfl⟩
 simp only[hatill,<-htill]at ptill
 have pl:=fun W (hW:Below w.heap.size w W)=>length_a c.crs.l W (hE.up hW)
 obtain⟨ul,hal⟩: ∃a,Pl.lengthV c.crs.l=a:=⟨_,rfl⟩
 rw[hal]at pl
 have pb:=fun(W:World) (_:Below w.heap.size w W)=>quad_a c.crs.b W
 obtain⟨ub,hab⟩: ∃a,Pl.quadB c.crs.b=a:=⟨_,rfl⟩
 rw[show(⟨(Pl.quad c.crs.b).toArray⟩:ByteArray)=ub from hab]at pb
 have pn:=fun W (hW:Below w.heap.size w W)=>itoa_lib c.crs.n W (hE.up hW) (by omega) (by omega)
 obtain⟨un,han⟩: ∃a,Pl.spelt c.crs.n=a:=⟨_,rfl⟩
 rw[show(⟨(Lib.itoa c.crs.n).toArray⟩:ByteArray)=un from han]at pn
 have px:=fun W (hW:Below w.heap.size w W)=>itoa_lib c.crs.x W (hE.up hW) (by omega) (by omega)
 obtain⟨ux,hax⟩: ∃a,Pl.spelt c.crs.x=a:=⟨_,rfl⟩
 rw[show(⟨(Lib.itoa c.crs.x).toArray⟩:ByteArray)=ux from hax]at px
 have ps:=fun W (hW:Below w.heap.size w W)=>itoa_lib c.crs.s W (hE.up hW) (by omega) (by omega)
 obtain⟨us,has⟩: ∃a,Pl.spelt c.crs.s=a:=⟨_,rfl⟩
 rw[show(⟨(Lib.itoa c.crs.s).toArray⟩:ByteArray)=us from has]at ps
 rw[halim,hafr,hatill,hal,hab,han,hax,has]
 clear halim hafr hatill hal hab han hax has hlim hfr htill llim lfr ltill bn bx bs hf hE
 have whole:=fun(W:World) (k:W.heap[w.heap.size]?=some (.cells (fcq A1 A2 A3 A4 c1 c2 c3 c4 f c) 128 (0,0)))=>CBox.whole (CBox.mk (f:=f) (c:=c) (k:=(c.kind:Int)) k)
 clear kb0
 go_enter Tryz.func216,Tryz.ntmps216
 go_wp2
 have kb:=(show((w.alloc (.cells (fcq A1 A2 A3 A4 c1 c2 c3 c4 f c) 128)).alloc (.cells (cq c.crs) 46)).drew.heap[w.heap.size]?=_ from kb)
 have kx:=(show((w.alloc (.cells (fcq A1 A2 A3 A4 c1 c2 c3 c4 f c) 128)).alloc (.cells (cq c.crs) 46)).drew.heap[w.heap.size+1]?=_ from kx)
 have hall:=hb0.drew
 clear hb0 l46
 go_region_held3 (fun W=>(loadVar 128 ⟨w.heap.size,0,none⟩).run Tryz.prog W=.ok (.agg (fcq A1 A2 A3 A4 c1 c2 c3 c4 f c)) W∧W.cell? ⟨w.heap.size,5,none⟩=some (.int .i64 c.lim)∧W.cell? ⟨w.heap.size,7,none⟩=some (.int .i64 c.fr)∧W.cell? ⟨w.heap.size,8,none⟩=some (.int .i64 c.till)∧W.cell? ⟨w.heap.size+1,2,none⟩=some (.int .i64 c.crs.l)∧W.cell? ⟨w.heap.size+1,0,none⟩=some (.int .i64 c.crs.b)∧W.cell? ⟨w.heap.size+1,1,none⟩=some (.int .i64 c.crs.n)∧W.cell? ⟨w.heap.size+1,4,none⟩=some (.int .i64 c.crs.x)∧W.cell? ⟨w.heap.size+1,5,none⟩=some (.int .i64 c.crs.s)) (first|exact⟨whole _ kb,(blk_cells kb).1 5,(blk_cells kb).1 7,(blk_cells kb).1 8,(blk_cells kx).1 2,(blk_cells kx).1 0,(blk_cells kx).1 1,(blk_cells kx).1 4,(blk_cells kx).1 5⟩|exact⟨whole _ ((Below.heap_alloc _ _ _ (lO kb)).trans kb),(blk_cells ((Below.heap_alloc _ _ _ (lO kb)).trans kb)).1 5,(blk_cells ((Below.heap_alloc _ _ _ (lO kb)).trans kb)).1 7,(blk_cells ((Below.heap_alloc _ _ _ (lO kb)).trans kb)).1 8,(blk_cells ((Below.heap_alloc _ _ _ (lO kx)).trans kx)).1 2,(blk_cells ((Below.heap_alloc _ _ _ (lO kx)).trans kx)).1 0,(blk_cells ((Below.heap_alloc _ _ _ (lO kx)).trans kx)).1 1,(blk_cells ((Below.heap_alloc _ _ _ (lO kx)).trans kx)).1 4,(blk_cells ((Below.heap_alloc _ _ _ (lO kx)).trans kx)).1 5⟩) (first
  |(go_at_call 273;refine(plim _ hall).mono ?_;rintro e w1 ⟨rfl,hx⟩;have kb:=kE hx kb;have kx:=kE hx kx;have hall:=hall.trans (hx.mono hall.size);clear hx plim)
  |(go_at_call 274;refine(pfr _ hall).mono ?_;rintro e w1 ⟨rfl,hx⟩;have kb:=kE hx kb;have kx:=kE hx kx;have hall:=hall.trans (hx.mono hall.size);clear hx pfr)
  |(go_at_call 274;refine(ptill _ hall).mono ?_;rintro e w1 ⟨rfl,hx⟩;have kb:=kE hx kb;have kx:=kE hx kx;have hall:=hall.trans (hx.mono hall.size);clear hx ptill)
  |(go_at_call 275;refine(pl _ hall).mono ?_;rintro e w1 ⟨rfl,hx⟩;have kb:=kE hx kb;have kx:=kE hx kx;have hall:=hall.trans (hx.mono hall.size);clear hx pl)
  |(go_at_call 276;refine(pb _ hall).mono ?_;rintro e w1 ⟨rfl,rfl⟩;clear pb)
  |(go_at_call 120;refine(pn _ hall).mono ?_;rintro e w1 ⟨rfl,hx⟩;have kb:=kE hx kb;have kx:=kE hx kx;have hall:=hall.trans (hx.mono hall.size);clear hx pn)
  |(go_at_call 120;refine(px _ hall).mono ?_;rintro e w1 ⟨rfl,hx⟩;have kb:=kE hx kb;have kx:=kE hx kx;have hall:=hall.trans (hx.mono hall.size);clear hx px)
  |(go_at_call 120;refine(ps _ hall).mono ?_;rintro e w1 ⟨rfl,hx⟩;have kb:=kE hx kb;have kx:=kE hx kx;have hall:=hall.trans (hx.mono hall.size);clear hx ps))
 all_goals go_wp2
 all_goals go_ret
 all_goals exact⟨_,rfl,heap_alloc_new _ _,hall.size,hall.alloc hall.size _⟩
end Go.Proofs.YtgbpekeoegfjpaaGreatDoor
set_option maxRecDepth 100000
namespace Go.Proofs.YtgbpekeoegfjpaaGreatDoor
open Go.RowKit
variable (A1 A2 A3 A4 : Option Addr) (c1 c2 c3 c4 : Nat) (f : Pl.Fld)
attribute [-go_sem] run_equalIn_agg loadVar storeVar
attribute [local go_sem] lv_int lv_bool lv_u8 lv_string
theorem lv_words (a:Addr)(w:World):(loadVar 202 a).run Tryz.prog w=(load a).run Tryz.prog w:=lv_scalar Tryz.underlying202 rfl a w
attribute [local go_sem] lv_words
theorem info_kind1 :(Tryz.prog.info? 204).map (·.size)=some 3:=by kernel_rfl
theorem nms_blk {w:World}{g:Nat}{ws:List ByteArray}(h:w.heap[g]?=some (.cells (ws.map Value.string).toArray 9 (0,0))):Nms w w.heap.size (some ⟨g,0,none⟩) ws:=by
 obtain⟨hc,_⟩:=blk_cells h
 refine .inr ⟨g,0,rfl,(lO h),fun k x hx j v hv=> ?_⟩
 simp only[encNm]at hv
 obtain⟨hj,rfl⟩:j=0∧v=.string x:=by
  match j,hv with
  |0,hv=>simp at hv;exact⟨rfl,hv.symm⟩
  |j+1,hv=>simp at hv
 subst hj
 rw[Nat.mul_one,Nat.add_zero,Nat.zero_add,hc k,<-Array.getElem?_toList,List.getElem?_map,hx]
 rfl
set_option maxHeartbeats 8000000 in
theorem line_stone (c:Pl.Cal)(ws:List ByteArray)(J:List UInt8)(w:World)(hJ:Hid (Lib.join (ws.map (·.data.toList)) [32]=J))(hl:J.length<=1000000)(h0:0<ws.length)(hn:ws.length<=100)
  (hR: ∀W,Below w.heap.size w W->Calls Tryz.prog 212 #[.agg (fkq A1 A2 A3 A4 c1 c2 c3 c4 f 1 c)] W (EndW ws W)):
  Calls Tryz.prog 91 #[.agg (fkq A1 A2 A3 A4 c1 c2 c3 c4 f 1 c)] w fun e w'=>e=.returned (.string ⟨([115,116,111,110,101,32]++J).toArray⟩)∧Below w.heap.size w w':=by
 have kb:=heap_alloc_new w (.cells (fkq A1 A2 A3 A4 c1 c2 c3 c4 f 1 c) 128)
 have hall:Below w.heap.size w (w.alloc (.cells (fkq A1 A2 A3 A4 c1 c2 c3 c4 f 1 c) 128)):=(Below.refl _ w).alloc (Nat.le_refl _) _
 have hix: ∀W,(Instr.index 205 (.agg #[.string ⟨#[]⟩,.nilFunc,.nilFunc,.string ⟨#[115,116,111,110,101]⟩,.func (.func 211) #[] #[],.func (.func 212) #[] #[],.string ⟨#[119,105,100,116,104]⟩,.func (.func 213) #[] #[],.func (.func 214) #[] #[],.string ⟨#[99,111,117,114,115,101]⟩,.func (.func 215) #[] #[],.func (.func 216) #[] #[],.string ⟨#[97,108,111,110,103]⟩,.func (.func 217) #[] #[],.func (.func 218) #[] #[],.string ⟨#[108,101,118,101,108]⟩,.func (.func 219) #[] #[],.func (.func 220) #[] #[]]) (.int .u8 1)).run Tryz.prog W=.ok (.agg #[.string ⟨#[115,116,111,110,101]⟩,.func (.func 211) #[] #[],.func (.func 212) #[] #[]]) W:=fun _=>by kernel_rfl
 have hadd1: ∀W,(Op.stringOp .add ⟨#[115,116,111,110,101]⟩ ⟨#[32]⟩).run Tryz.prog W=.ok (.string ⟨#[115,116,111,110,101,32]⟩) W:=fun _=>by kernel_rfl
 have hadd2: ∀W,(Op.stringOp .add ⟨#[115,116,111,110,101,32]⟩ ⟨J.toArray⟩).run Tryz.prog W=.ok (.string ⟨([115,116,111,110,101,32]++J).toArray⟩) W:=fun W=>by
  rw[run_string_add W ⟨#[115,116,111,110,101,32]⟩ ⟨J.toArray⟩ (by decide) (by rw[ba_size];omega),show(⟨#[115,116,111,110,101,32]⟩:ByteArray)=⟨([115,116,111,110,101,32]:List UInt8).toArray⟩ from rfl,ba_append]
  simp
 have hlt:=lO kb
 have q0:=(blk_cells kb).1 4
 have whole:=fun(W:World) (k:W.heap[w.heap.size]?=some (.cells (fkq A1 A2 A3 A4 c1 c2 c3 c4 f 1 c) 128 (0,0)))=>CBox.whole (CBox.mk (f:=f) (c:=c) (k:=1) k)
 go_enter Tryz.func91,Tryz.ntmps91
 go_wp2
 generalize w.alloc (.cells (fkq A1 A2 A3 A4 c1 c2 c3 c4 f 1 c) 128)=W0 at*
 refine wp_region_held_drew (S:=fun W=>W.cell? ⟨w.heap.size,4,none⟩=some (.int .u8 1)) (by kernel_rfl) q0 (fun hHeld=> ?_)
 refine tH 1 (some 5) (v:= ?v1) rfl rfl (fun W hW=> ?hy1) ?hr1
 case hy1=>(try dsimp only at hW);go_simp;try with_reducible rfl
 try simp only[Act.put,q1,q2,q3]
 refine tH 2 (some 6) (v:= ?v2) rfl rfl (fun W hW=> ?hy2) ?hr2
 case hy2=>(try dsimp only at hW);go_simp;try with_reducible rfl
 try simp only[Act.put,q1,q2,q3]
 refine tH 3 (some 7) (v:= ?v3) rfl rfl (fun W hW=> ?hy3) ?hr3
 case hy3=>(try dsimp only at hW);go_simp;try with_reducible rfl
 try simp only[Act.put,q1,q2,q3]
 refine wpAnyH_ready (rs:=[0,5]) (by kernel_rfl) (by simp) ?_
 refine readyH (some 4) rfl rfl (fun K hK=> ?_) (readyH (some 3) rfl rfl (fun K hK=> ?_) AllReadyH.nil)
 ·go_simp
  refine(kinds_v _).mono ?_
  rintro e w1 ⟨rfl,hx⟩
  have kb1:=(hx.block w.heap.size hlt).trans kb
  have hall1:Below w.heap.size w w1:=hall.drew.trans (hx.mono hall.size)
  refine hK.out _ _ ((blk_cells kb1).1 4) (fun hHeld=> ?_)
  clear hK K hx kb hall
  try simp only[Act.put,q1,q2,q3]
  refine tH 4 (some 8) (v:= ?v4) rfl rfl (fun W hW=> ?hy4) ?hr4
  case hy4=>(try dsimp only at hW);go_simp;try with_reducible rfl
  try simp only[Act.put,q1,q2,q3]
  refine wpAnyH_ready (rs:=[5]) (by kernel_rfl) (by simp) ?_
  refine readyH (some 3) rfl rfl (fun K hK=> ?_) AllReadyH.nil
  go_simp
  have ha:=heap_alloc_new w1 (.cells #[.string ⟨#[]⟩,.nilFunc,.nilFunc] 204)
  have kb2:=(Below.heap_alloc w1 (.cells #[.string ⟨#[]⟩,.nilFunc,.nilFunc] 204) w.heap.size (lO kb1)).trans kb1
  have hall2:Below w.heap.size w (w1.alloc (.cells #[.string ⟨#[]⟩,.nilFunc,.nilFunc] 204)):=hall1.alloc hall1.size _
  refine hK.out _ _ ((blk_cells kb2).1 4) (fun hHeld=> ?_)
  clear hK K
  try simp only[Act.put,q1,q2,q3]
  obtain⟨W,hst,kp,hg⟩:=st_row _ w1.heap.size _ 204 _ #[.string ⟨#[115,116,111,110,101]⟩,.func (.func 211) #[] #[],.func (.func 212) #[] #[]] ha info_kind1 rfl (by simp[Value.oneCell'])
  have kbW:W.heap[w.heap.size]?=_:=(hg.block _ (lO kb2) (by have:=lO kb1;simp;omega)).trans kb2
  have hallW:Below w.heap.size w W:=hall2.grown hg hall2.size (fun k e=>by cases e;exact hall1.size)
  refine wpAnyH_ready (rs:=[6]) (by kernel_rfl) (by simp) ?_
  refine readyH none rfl rfl (fun K hK=> ?_) AllReadyH.nil
  go_simp
  refine hK.out _ _ ((blk_cells kbW).1 4) (fun hHeld=> ?_)
  clear hK K
  try simp only[Act.put,q1,q2,q3]
  refine wpAnyH_done (by kernel_rfl) ?_ _
  clear hHeld hix q0
  have hallW:=hallW.drew
  have kp:=(show W.drew.heap[w1.heap.size]?=_ from kp)
  have kbW:=(show W.drew.heap[w.heap.size]?=_ from kbW)
  go_wp2
  go_region_held3 (fun W=>(loadVar 128 ⟨w.heap.size,0,none⟩).run Tryz.prog W=.ok (.agg (fkq A1 A2 A3 A4 c1 c2 c3 c4 f 1 c)) W∧W.cell? ⟨w1.heap.size,0,none⟩=some (.string ⟨#[115,116,111,110,101]⟩)∧W.cell? ⟨w1.heap.size,2,none⟩=some (.func (.func 212) #[] #[])) (exact⟨whole _ kbW,(blk_cells kp).1 0,(blk_cells kp).1 2⟩) (first
   |(go_at_call 212;refine(hR _ hallW).mono ?_;rintro e w2 ⟨g,rfl,hg,hge,hx⟩;have kbW:=kE hx kbW;have kp:=kE hx kp;have hallW:=hallW.trans (hx.mono hallW.size);clear hx hR)
   |(go_at_call 119;refine(join_h g _ ws J _ hJ hl (nms_blk hg) h0 (Nat.le_refl _) hn).mono ?_;rintro e w3 ⟨rfl,hx⟩;have kbW:=kE hx kbW;have kp:=kE hx kp;have hallW:=hallW.trans (hx.mono hallW.size);clear hx))
  all_goals go_wp2
  all_goals go_ret
  all_goals exact⟨rfl,hallW⟩
 ·go_simp
  have ha:=heap_alloc_new W0.drew (.cells #[.string ⟨#[]⟩,.nilFunc,.nilFunc] 204)
  have kb1:=(Below.heap_alloc W0.drew (.cells #[.string ⟨#[]⟩,.nilFunc,.nilFunc] 204) w.heap.size hlt).trans kb
  have hall1:Below w.heap.size w (W0.drew.alloc (.cells #[.string ⟨#[]⟩,.nilFunc,.nilFunc] 204)):=hall.drew.alloc hall.size _
  refine hK.out _ _ ((blk_cells kb1).1 4) (fun hHeld=> ?_)
  clear hK K
  try simp only[Act.put,q1,q2,q3]
  refine wpAnyH_ready (rs:=[0]) (by kernel_rfl) (by simp) ?_
  refine readyH (some 4) rfl rfl (fun K hK=> ?_) AllReadyH.nil
  go_simp
  refine(kinds_v _).mono ?_
  rintro e w1 ⟨rfl,hx⟩
  have kb2:=(hx.block w.heap.size (lO kb1)).trans kb1
  have ha:=kE hx ha
  have hall2:Below w.heap.size w w1:=hall1.trans (hx.mono hall1.size)
  refine hK.out _ _ ((blk_cells kb2).1 4) (fun hHeld=> ?_)
  clear hK K hx
  try simp only[Act.put,q1,q2,q3]
  refine tH 4 (some 8) (v:= ?v5) rfl rfl (fun W hW=> ?hy5) ?hr5
  case hy5=>(try dsimp only at hW);go_simp;try with_reducible rfl
  try simp only[Act.put,q1,q2,q3]
  obtain⟨W,hst,kp,hg⟩:=st_row _ W0.heap.size _ 204 _ #[.string ⟨#[115,116,111,110,101]⟩,.func (.func 211) #[] #[],.func (.func 212) #[] #[]] ha info_kind1 rfl (by simp[Value.oneCell'])
  have kbW:W.heap[w.heap.size]?=_:=(hg.block _ (lO kb2) (by simp;omega)).trans kb2
  have hallW:Below w.heap.size w W:=hall2.grown hg hall2.size (fun k e=>by cases e;exact hall.size)
  clear hall hall1 hall2 kb kb1 kb2 ha hg
  refine wpAnyH_ready (rs:=[6]) (by kernel_rfl) (by simp) ?_
  refine readyH none rfl rfl (fun K hK=> ?_) AllReadyH.nil
  go_simp
  refine hK.out _ _ ((blk_cells kbW).1 4) (fun hHeld=> ?_)
  clear hK K
  try simp only[Act.put,q1,q2,q3]
  refine wpAnyH_done (by kernel_rfl) ?_ _
  clear hHeld hix q0
  have hallW:=hallW.drew
  have kp:=(show W.drew.heap[W0.heap.size]?=_ from kp)
  have kbW:=(show W.drew.heap[w.heap.size]?=_ from kbW)
  go_wp2
  go_region_held3 (fun W=>(loadVar 128 ⟨w.heap.size,0,none⟩).run Tryz.prog W=.ok (.agg (fkq A1 A2 A3 A4 c1 c2 c3 c4 f 1 c)) W∧W.cell? ⟨W0.heap.size,0,none⟩=some (.string ⟨#[115,116,111,110,101]⟩)∧W.cell? ⟨W0.heap.size,2,none⟩=some (.func (.func 212) #[] #[])) (exact⟨whole _ kbW,(blk_cells kp).1 0,(blk_cells kp).1 2⟩) (first
   |(go_at_call 212;refine(hR _ hallW).mono ?_;rintro e w2 ⟨g,rfl,hg,hge,hx⟩;have kbW:=kE hx kbW;have kp:=kE hx kp;have hallW:=hallW.trans (hx.mono hallW.size);clear hx hR)
   |(go_at_call 119;refine(join_h g _ ws J _ hJ hl (nms_blk hg) h0 (Nat.le_refl _) hn).mono ?_;rintro e w3 ⟨rfl,hx⟩;have kbW:=kE hx kbW;have kp:=kE hx kp;have hallW:=hallW.trans (hx.mono hallW.size);clear hx))
  all_goals go_wp2
  all_goals go_ret
  all_goals exact⟨rfl,hallW⟩
set_option maxHeartbeats 8000000 in
theorem line_width (c:Pl.Cal)(ws:List ByteArray)(J:List UInt8)(w:World)(hJ:Hid (Lib.join (ws.map (·.data.toList)) [32]=J))(hl:J.length<=1000000)(h0:0<ws.length)(hn:ws.length<=100)
  (hR: ∀W,Below w.heap.size w W->Calls Tryz.prog 214 #[.agg (fkq A1 A2 A3 A4 c1 c2 c3 c4 f 2 c)] W (EndW ws W)):
  Calls Tryz.prog 91 #[.agg (fkq A1 A2 A3 A4 c1 c2 c3 c4 f 2 c)] w fun e w'=>e=.returned (.string ⟨([119,105,100,116,104,32]++J).toArray⟩)∧Below w.heap.size w w':=by
 have kb:=heap_alloc_new w (.cells (fkq A1 A2 A3 A4 c1 c2 c3 c4 f 2 c) 128)
 have hall:Below w.heap.size w (w.alloc (.cells (fkq A1 A2 A3 A4 c1 c2 c3 c4 f 2 c) 128)):=(Below.refl _ w).alloc (Nat.le_refl _) _
 have hix: ∀W,(Instr.index 205 (.agg #[.string ⟨#[]⟩,.nilFunc,.nilFunc,.string ⟨#[115,116,111,110,101]⟩,.func (.func 211) #[] #[],.func (.func 212) #[] #[],.string ⟨#[119,105,100,116,104]⟩,.func (.func 213) #[] #[],.func (.func 214) #[] #[],.string ⟨#[99,111,117,114,115,101]⟩,.func (.func 215) #[] #[],.func (.func 216) #[] #[],.string ⟨#[97,108,111,110,103]⟩,.func (.func 217) #[] #[],.func (.func 218) #[] #[],.string ⟨#[108,101,118,101,108]⟩,.func (.func 219) #[] #[],.func (.func 220) #[] #[]]) (.int .u8 2)).run Tryz.prog W=.ok (.agg #[.string ⟨#[119,105,100,116,104]⟩,.func (.func 213) #[] #[],.func (.func 214) #[] #[]]) W:=fun _=>by kernel_rfl
 have hadd1: ∀W,(Op.stringOp .add ⟨#[119,105,100,116,104]⟩ ⟨#[32]⟩).run Tryz.prog W=.ok (.string ⟨#[119,105,100,116,104,32]⟩) W:=fun _=>by kernel_rfl
 have hadd2: ∀W,(Op.stringOp .add ⟨#[119,105,100,116,104,32]⟩ ⟨J.toArray⟩).run Tryz.prog W=.ok (.string ⟨([119,105,100,116,104,32]++J).toArray⟩) W:=fun W=>by
  rw[run_string_add W ⟨#[119,105,100,116,104,32]⟩ ⟨J.toArray⟩ (by decide) (by rw[ba_size];omega),show(⟨#[119,105,100,116,104,32]⟩:ByteArray)=⟨([119,105,100,116,104,32]:List UInt8).toArray⟩ from rfl,ba_append]
  simp
 have hlt:=lO kb
 have q0:=(blk_cells kb).1 4
 have whole:=fun(W:World) (k:W.heap[w.heap.size]?=some (.cells (fkq A1 A2 A3 A4 c1 c2 c3 c4 f 2 c) 128 (0,0)))=>CBox.whole (CBox.mk (f:=f) (c:=c) (k:=2) k)
 go_enter Tryz.func91,Tryz.ntmps91
 go_wp2
 generalize w.alloc (.cells (fkq A1 A2 A3 A4 c1 c2 c3 c4 f 2 c) 128)=W0 at*
 refine wp_region_held_drew (S:=fun W=>W.cell? ⟨w.heap.size,4,none⟩=some (.int .u8 2)) (by kernel_rfl) q0 (fun hHeld=> ?_)
 refine tH 1 (some 5) (v:= ?v6) rfl rfl (fun W hW=> ?hy6) ?hr6
 case hy6=>(try dsimp only at hW);go_simp;try with_reducible rfl
 try simp only[Act.put,q1,q2,q3]
 refine tH 2 (some 6) (v:= ?v7) rfl rfl (fun W hW=> ?hy7) ?hr7
 case hy7=>(try dsimp only at hW);go_simp;try with_reducible rfl
 try simp only[Act.put,q1,q2,q3]
 refine tH 3 (some 7) (v:= ?v8) rfl rfl (fun W hW=> ?hy8) ?hr8
 case hy8=>(try dsimp only at hW);go_simp;try with_reducible rfl
 try simp only[Act.put,q1,q2,q3]
 refine wpAnyH_ready (rs:=[0,5]) (by kernel_rfl) (by simp) ?_
 refine readyH (some 4) rfl rfl (fun K hK=> ?_) (readyH (some 3) rfl rfl (fun K hK=> ?_) AllReadyH.nil)
 ·go_simp
  refine(kinds_v _).mono ?_
  rintro e w1 ⟨rfl,hx⟩
  have kb1:=(hx.block w.heap.size hlt).trans kb
  have hall1:Below w.heap.size w w1:=hall.drew.trans (hx.mono hall.size)
  refine hK.out _ _ ((blk_cells kb1).1 4) (fun hHeld=> ?_)
  clear hK K hx kb hall
  try simp only[Act.put,q1,q2,q3]
  refine tH 4 (some 8) (v:= ?v9) rfl rfl (fun W hW=> ?hy9) ?hr9
  case hy9=>(try dsimp only at hW);go_simp;try with_reducible rfl
  try simp only[Act.put,q1,q2,q3]
  refine wpAnyH_ready (rs:=[5]) (by kernel_rfl) (by simp) ?_
  refine readyH (some 3) rfl rfl (fun K hK=> ?_) AllReadyH.nil
  go_simp
  have ha:=heap_alloc_new w1 (.cells #[.string ⟨#[]⟩,.nilFunc,.nilFunc] 204)
  have kb2:=(Below.heap_alloc w1 (.cells #[.string ⟨#[]⟩,.nilFunc,.nilFunc] 204) w.heap.size (lO kb1)).trans kb1
  have hall2:Below w.heap.size w (w1.alloc (.cells #[.string ⟨#[]⟩,.nilFunc,.nilFunc] 204)):=hall1.alloc hall1.size _
  refine hK.out _ _ ((blk_cells kb2).1 4) (fun hHeld=> ?_)
  clear hK K
  try simp only[Act.put,q1,q2,q3]
  obtain⟨W,hst,kp,hg⟩:=st_row _ w1.heap.size _ 204 _ #[.string ⟨#[119,105,100,116,104]⟩,.func (.func 213) #[] #[],.func (.func 214) #[] #[]] ha info_kind1 rfl (by simp[Value.oneCell'])
  have kbW:W.heap[w.heap.size]?=_:=(hg.block _ (lO kb2) (by have:=lO kb1;simp;omega)).trans kb2
  have hallW:Below w.heap.size w W:=hall2.grown hg hall2.size (fun k e=>by cases e;exact hall1.size)
  refine wpAnyH_ready (rs:=[6]) (by kernel_rfl) (by simp) ?_
  refine readyH none rfl rfl (fun K hK=> ?_) AllReadyH.nil
  go_simp
  refine hK.out _ _ ((blk_cells kbW).1 4) (fun hHeld=> ?_)
  clear hK K
  try simp only[Act.put,q1,q2,q3]
  refine wpAnyH_done (by kernel_rfl) ?_ _
  clear hHeld hix q0
  have hallW:=hallW.drew
  have kp:=(show W.drew.heap[w1.heap.size]?=_ from kp)
  have kbW:=(show W.drew.heap[w.heap.size]?=_ from kbW)
  go_wp2
  go_region_held3 (fun W=>(loadVar 128 ⟨w.heap.size,0,none⟩).run Tryz.prog W=.ok (.agg (fkq A1 A2 A3 A4 c1 c2 c3 c4 f 2 c)) W∧W.cell? ⟨w1.heap.size,0,none⟩=some (.string ⟨#[119,105,100,116,104]⟩)∧W.cell? ⟨w1.heap.size,2,none⟩=some (.func (.func 214) #[] #[])) (exact⟨whole _ kbW,(blk_cells kp).1 0,(blk_cells kp).1 2⟩) (first
   |(go_at_call 214;refine(hR _ hallW).mono ?_;rintro e w2 ⟨g,rfl,hg,hge,hx⟩;have kbW:=kE hx kbW;have kp:=kE hx kp;have hallW:=hallW.trans (hx.mono hallW.size);clear hx hR)
   |(go_at_call 119;refine(join_h g _ ws J _ hJ hl (nms_blk hg) h0 (Nat.le_refl _) hn).mono ?_;rintro e w3 ⟨rfl,hx⟩;have kbW:=kE hx kbW;have kp:=kE hx kp;have hallW:=hallW.trans (hx.mono hallW.size);clear hx))
  all_goals go_wp2
  all_goals go_ret
  all_goals exact⟨rfl,hallW⟩
 ·go_simp
  have ha:=heap_alloc_new W0.drew (.cells #[.string ⟨#[]⟩,.nilFunc,.nilFunc] 204)
  have kb1:=(Below.heap_alloc W0.drew (.cells #[.string ⟨#[]⟩,.nilFunc,.nilFunc] 204) w.heap.size hlt).trans kb
  have hall1:Below w.heap.size w (W0.drew.alloc (.cells #[.string ⟨#[]⟩,.nilFunc,.nilFunc] 204)):=hall.drew.alloc hall.size _
  refine hK.out _ _ ((blk_cells kb1).1 4) (fun hHeld=> ?_)
  clear hK K
  try simp only[Act.put,q1,q2,q3]
  refine wpAnyH_ready (rs:=[0]) (by kernel_rfl) (by simp) ?_
  refine readyH (some 4) rfl rfl (fun K hK=> ?_) AllReadyH.nil
  go_simp
  refine(kinds_v _).mono ?_
  rintro e w1 ⟨rfl,hx⟩
  have kb2:=(hx.block w.heap.size (lO kb1)).trans kb1
  have ha:=kE hx ha
  have hall2:Below w.heap.size w w1:=hall1.trans (hx.mono hall1.size)
  refine hK.out _ _ ((blk_cells kb2).1 4) (fun hHeld=> ?_)
  clear hK K hx
  try simp only[Act.put,q1,q2,q3]
  refine tH 4 (some 8) (v:= ?v10) rfl rfl (fun W hW=> ?hy10) ?hr10
  case hy10=>(try dsimp only at hW);go_simp;try with_reducible rfl
  try simp only[Act.put,q1,q2,q3]
  obtain⟨W,hst,kp,hg⟩:=st_row _ W0.heap.size _ 204 _ #[.string ⟨#[119,105,100,116,104]⟩,.func (.func 213) #[] #[],.func (.func 214) #[] #[]] ha info_kind1 rfl (by simp[Value.oneCell'])
  have kbW:W.heap[w.heap.size]?=_:=(hg.block _ (lO kb2) (by simp;omega)).trans kb2
  have hallW:Below w.heap.size w W:=hall2.grown hg hall2.size (fun k e=>by cases e;exact hall.size)
  clear hall hall1 hall2 kb kb1 kb2 ha hg
  refine wpAnyH_ready (rs:=[6]) (by kernel_rfl) (by simp) ?_
  refine readyH none rfl rfl (fun K hK=> ?_) AllReadyH.nil
  go_simp
  refine hK.out _ _ ((blk_cells kbW).1 4) (fun hHeld=> ?_)
  clear hK K
  try simp only[Act.put,q1,q2,q3]
  refine wpAnyH_done (by kernel_rfl) ?_ _
  clear hHeld hix q0
  have hallW:=hallW.drew
  have kp:=(show W.drew.heap[W0.heap.size]?=_ from kp)
  have kbW:=(show W.drew.heap[w.heap.size]?=_ from kbW)
  go_wp2
  go_region_held3 (fun W=>(loadVar 128 ⟨w.heap.size,0,none⟩).run Tryz.prog W=.ok (.agg (fkq A1 A2 A3 A4 c1 c2 c3 c4 f 2 c)) W∧W.cell? ⟨W0.heap.size,0,none⟩=some (.string ⟨#[119,105,100,116,104]⟩)∧W.cell? ⟨W0.heap.size,2,none⟩=some (.func (.func 214) #[] #[])) (exact⟨whole _ kbW,(blk_cells kp).1 0,(blk_cells kp).1 2⟩) (first
   |(go_at_call 214;refine(hR _ hallW).mono ?_;rintro e w2 ⟨g,rfl,hg,hge,hx⟩;have kbW:=kE hx kbW;have kp:=kE hx kp;have hallW:=hallW.trans (hx.mono hallW.size);clear hx hR)
   |(go_at_call 119;refine(join_h g _ ws J _ hJ hl (nms_blk hg) h0 (Nat.le_refl _) hn).mono ?_;rintro e w3 ⟨rfl,hx⟩;have kbW:=kE hx kbW;have kp:=kE hx kp;have hallW:=hallW.trans (hx.mono hallW.size);clear hx))
  all_goals go_wp2
  all_goals go_ret
  all_goals exact⟨rfl,hallW⟩
set_option maxHeartbeats 8000000 in
theorem line_course (c:Pl.Cal)(ws:List ByteArray)(J:List UInt8)(w:World)(hJ:Hid (Lib.join (ws.map (·.data.toList)) [32]=J))(hl:J.length<=1000000)(h0:0<ws.length)(hn:ws.length<=100)
  (hR: ∀W,Below w.heap.size w W->Calls Tryz.prog 216 #[.agg (fkq A1 A2 A3 A4 c1 c2 c3 c4 f 3 c)] W (EndW ws W)):
  Calls Tryz.prog 91 #[.agg (fkq A1 A2 A3 A4 c1 c2 c3 c4 f 3 c)] w fun e w'=>e=.returned (.string ⟨([99,111,117,114,115,101,32]++J).toArray⟩)∧Below w.heap.size w w':=by
 have kb:=heap_alloc_new w (.cells (fkq A1 A2 A3 A4 c1 c2 c3 c4 f 3 c) 128)
 have hall:Below w.heap.size w (w.alloc (.cells (fkq A1 A2 A3 A4 c1 c2 c3 c4 f 3 c) 128)):=(Below.refl _ w).alloc (Nat.le_refl _) _
 have hix: ∀W,(Instr.index 205 (.agg #[.string ⟨#[]⟩,.nilFunc,.nilFunc,.string ⟨#[115,116,111,110,101]⟩,.func (.func 211) #[] #[],.func (.func 212) #[] #[],.string ⟨#[119,105,100,116,104]⟩,.func (.func 213) #[] #[],.func (.func 214) #[] #[],.string ⟨#[99,111,117,114,115,101]⟩,.func (.func 215) #[] #[],.func (.func 216) #[] #[],.string ⟨#[97,108,111,110,103]⟩,.func (.func 217) #[] #[],.func (.func 218) #[] #[],.string ⟨#[108,101,118,101,108]⟩,.func (.func 219) #[] #[],.func (.func 220) #[] #[]]) (.int .u8 3)).run Tryz.prog W=.ok (.agg #[.string ⟨#[99,111,117,114,115,101]⟩,.func (.func 215) #[] #[],.func (.func 216) #[] #[]]) W:=fun _=>by kernel_rfl
 have hadd1: ∀W,(Op.stringOp .add ⟨#[99,111,117,114,115,101]⟩ ⟨#[32]⟩).run Tryz.prog W=.ok (.string ⟨#[99,111,117,114,115,101,32]⟩) W:=fun _=>by kernel_rfl
 have hadd2: ∀W,(Op.stringOp .add ⟨#[99,111,117,114,115,101,32]⟩ ⟨J.toArray⟩).run Tryz.prog W=.ok (.string ⟨([99,111,117,114,115,101,32]++J).toArray⟩) W:=fun W=>by
  rw[run_string_add W ⟨#[99,111,117,114,115,101,32]⟩ ⟨J.toArray⟩ (by decide) (by rw[ba_size];omega),show(⟨#[99,111,117,114,115,101,32]⟩:ByteArray)=⟨([99,111,117,114,115,101,32]:List UInt8).toArray⟩ from rfl,ba_append]
  simp
 have hlt:=lO kb
 have q0:=(blk_cells kb).1 4
 have whole:=fun(W:World) (k:W.heap[w.heap.size]?=some (.cells (fkq A1 A2 A3 A4 c1 c2 c3 c4 f 3 c) 128 (0,0)))=>CBox.whole (CBox.mk (f:=f) (c:=c) (k:=3) k)
 go_enter Tryz.func91,Tryz.ntmps91
 go_wp2
 generalize w.alloc (.cells (fkq A1 A2 A3 A4 c1 c2 c3 c4 f 3 c) 128)=W0 at*
 refine wp_region_held_drew (S:=fun W=>W.cell? ⟨w.heap.size,4,none⟩=some (.int .u8 3)) (by kernel_rfl) q0 (fun hHeld=> ?_)
 refine tH 1 (some 5) (v:= ?v11) rfl rfl (fun W hW=> ?hy11) ?hr11
 case hy11=>(try dsimp only at hW);go_simp;try with_reducible rfl
 try simp only[Act.put,q1,q2,q3]
 refine tH 2 (some 6) (v:= ?v12) rfl rfl (fun W hW=> ?hy12) ?hr12
 case hy12=>(try dsimp only at hW);go_simp;try with_reducible rfl
 try simp only[Act.put,q1,q2,q3]
 refine tH 3 (some 7) (v:= ?v13) rfl rfl (fun W hW=> ?hy13) ?hr13
 case hy13=>(try dsimp only at hW);go_simp;try with_reducible rfl
 try simp only[Act.put,q1,q2,q3]
 refine wpAnyH_ready (rs:=[0,5]) (by kernel_rfl) (by simp) ?_
 refine readyH (some 4) rfl rfl (fun K hK=> ?_) (readyH (some 3) rfl rfl (fun K hK=> ?_) AllReadyH.nil)
 ·go_simp
  refine(kinds_v _).mono ?_
  rintro e w1 ⟨rfl,hx⟩
  have kb1:=(hx.block w.heap.size hlt).trans kb
  have hall1:Below w.heap.size w w1:=hall.drew.trans (hx.mono hall.size)
  refine hK.out _ _ ((blk_cells kb1).1 4) (fun hHeld=> ?_)
  clear hK K hx kb hall
  try simp only[Act.put,q1,q2,q3]
  refine tH 4 (some 8) (v:= ?v14) rfl rfl (fun W hW=> ?hy14) ?hr14
  case hy14=>(try dsimp only at hW);go_simp;try with_reducible rfl
  try simp only[Act.put,q1,q2,q3]
  refine wpAnyH_ready (rs:=[5]) (by kernel_rfl) (by simp) ?_
  refine readyH (some 3) rfl rfl (fun K hK=> ?_) AllReadyH.nil
  go_simp
  have ha:=heap_alloc_new w1 (.cells #[.string ⟨#[]⟩,.nilFunc,.nilFunc] 204)
  have kb2:=(Below.heap_alloc w1 (.cells #[.string ⟨#[]⟩,.nilFunc,.nilFunc] 204) w.heap.size (lO kb1)).trans kb1
  have hall2:Below w.heap.size w (w1.alloc (.cells #[.string ⟨#[]⟩,.nilFunc,.nilFunc] 204)):=hall1.alloc hall1.size _
  refine hK.out _ _ ((blk_cells kb2).1 4) (fun hHeld=> ?_)
  clear hK K
  try simp only[Act.put,q1,q2,q3]
  obtain⟨W,hst,kp,hg⟩:=st_row _ w1.heap.size _ 204 _ #[.string ⟨#[99,111,117,114,115,101]⟩,.func (.func 215) #[] #[],.func (.func 216) #[] #[]] ha info_kind1 rfl (by simp[Value.oneCell'])
  have kbW:W.heap[w.heap.size]?=_:=(hg.block _ (lO kb2) (by have:=lO kb1;simp;omega)).trans kb2
  have hallW:Below w.heap.size w W:=hall2.grown hg hall2.size (fun k e=>by cases e;exact hall1.size)
  refine wpAnyH_ready (rs:=[6]) (by kernel_rfl) (by simp) ?_
  refine readyH none rfl rfl (fun K hK=> ?_) AllReadyH.nil
  go_simp
  refine hK.out _ _ ((blk_cells kbW).1 4) (fun hHeld=> ?_)
  clear hK K
  try simp only[Act.put,q1,q2,q3]
  refine wpAnyH_done (by kernel_rfl) ?_ _
  clear hHeld hix q0
  have hallW:=hallW.drew
  have kp:=(show W.drew.heap[w1.heap.size]?=_ from kp)
  have kbW:=(show W.drew.heap[w.heap.size]?=_ from kbW)
  go_wp2
  go_region_held3 (fun W=>(loadVar 128 ⟨w.heap.size,0,none⟩).run Tryz.prog W=.ok (.agg (fkq A1 A2 A3 A4 c1 c2 c3 c4 f 3 c)) W∧W.cell? ⟨w1.heap.size,0,none⟩=some (.string ⟨#[99,111,117,114,115,101]⟩)∧W.cell? ⟨w1.heap.size,2,none⟩=some (.func (.func 216) #[] #[])) (exact⟨whole _ kbW,(blk_cells kp).1 0,(blk_cells kp).1 2⟩) (first
   |(go_at_call 216;refine(hR _ hallW).mono ?_;rintro e w2 ⟨g,rfl,hg,hge,hx⟩;have kbW:=kE hx kbW;have kp:=kE hx kp;have hallW:=hallW.trans (hx.mono hallW.size);clear hx hR)
   |(go_at_call 119;refine(join_h g _ ws J _ hJ hl (nms_blk hg) h0 (Nat.le_refl _) hn).mono ?_;rintro e w3 ⟨rfl,hx⟩;have kbW:=kE hx kbW;have kp:=kE hx kp;have hallW:=hallW.trans (hx.mono hallW.size);clear hx))
  all_goals go_wp2
  all_goals go_ret
  all_goals exact⟨rfl,hallW⟩
 ·go_simp
  have ha:=heap_alloc_new W0.drew (.cells #[.string ⟨#[]⟩,.nilFunc,.nilFunc] 204)
  have kb1:=(Below.heap_alloc W0.drew (.cells #[.string ⟨#[]⟩,.nilFunc,.nilFunc] 204) w.heap.size hlt).trans kb
  have hall1:Below w.heap.size w (W0.drew.alloc (.cells #[.string ⟨#[]⟩,.nilFunc,.nilFunc] 204)):=hall.drew.alloc hall.size _
  refine hK.out _ _ ((blk_cells kb1).1 4) (fun hHeld=> ?_)
  clear hK K
  try simp only[Act.put,q1,q2,q3]
  refine wpAnyH_ready (rs:=[0]) (by kernel_rfl) (by simp) ?_
  refine readyH (some 4) rfl rfl (fun K hK=> ?_) AllReadyH.nil
  go_simp
  refine(kinds_v _).mono ?_
  rintro e w1 ⟨rfl,hx⟩
  have kb2:=(hx.block w.heap.size (lO kb1)).trans kb1
  have ha:=kE hx ha
  have hall2:Below w.heap.size w w1:=hall1.trans (hx.mono hall1.size)
  refine hK.out _ _ ((blk_cells kb2).1 4) (fun hHeld=> ?_)
  clear hK K hx
  try simp only[Act.put,q1,q2,q3]
  refine tH 4 (some 8) (v:= ?v15) rfl rfl (fun W hW=> ?hy15) ?hr15
  case hy15=>(try dsimp only at hW);go_simp;try with_reducible rfl
  try simp only[Act.put,q1,q2,q3]
  obtain⟨W,hst,kp,hg⟩:=st_row _ W0.heap.size _ 204 _ #[.string ⟨#[99,111,117,114,115,101]⟩,.func (.func 215) #[] #[],.func (.func 216) #[] #[]] ha info_kind1 rfl (by simp[Value.oneCell'])
  have kbW:W.heap[w.heap.size]?=_:=(hg.block _ (lO kb2) (by simp;omega)).trans kb2
  have hallW:Below w.heap.size w W:=hall2.grown hg hall2.size (fun k e=>by cases e;exact hall.size)
  clear hall hall1 hall2 kb kb1 kb2 ha hg
  refine wpAnyH_ready (rs:=[6]) (by kernel_rfl) (by simp) ?_
  refine readyH none rfl rfl (fun K hK=> ?_) AllReadyH.nil
  go_simp
  refine hK.out _ _ ((blk_cells kbW).1 4) (fun hHeld=> ?_)
  clear hK K
  try simp only[Act.put,q1,q2,q3]
  refine wpAnyH_done (by kernel_rfl) ?_ _
  clear hHeld hix q0
  have hallW:=hallW.drew
  have kp:=(show W.drew.heap[W0.heap.size]?=_ from kp)
  have kbW:=(show W.drew.heap[w.heap.size]?=_ from kbW)
  go_wp2
  go_region_held3 (fun W=>(loadVar 128 ⟨w.heap.size,0,none⟩).run Tryz.prog W=.ok (.agg (fkq A1 A2 A3 A4 c1 c2 c3 c4 f 3 c)) W∧W.cell? ⟨W0.heap.size,0,none⟩=some (.string ⟨#[99,111,117,114,115,101]⟩)∧W.cell? ⟨W0.heap.size,2,none⟩=some (.func (.func 216) #[] #[])) (exact⟨whole _ kbW,(blk_cells kp).1 0,(blk_cells kp).1 2⟩) (first
   |(go_at_call 216;refine(hR _ hallW).mono ?_;rintro e w2 ⟨g,rfl,hg,hge,hx⟩;have kbW:=kE hx kbW;have kp:=kE hx kp;have hallW:=hallW.trans (hx.mono hallW.size);clear hx hR)
   |(go_at_call 119;refine(join_h g _ ws J _ hJ hl (nms_blk hg) h0 (Nat.le_refl _) hn).mono ?_;rintro e w3 ⟨rfl,hx⟩;have kbW:=kE hx kbW;have kp:=kE hx kp;have hallW:=hallW.trans (hx.mono hallW.size);clear hx))
  all_goals go_wp2
  all_goals go_ret
  all_goals exact⟨rfl,hallW⟩
set_option maxHeartbeats 8000000 in
theorem line_along (c:Pl.Cal)(ws:List ByteArray)(J:List UInt8)(w:World)(hJ:Hid (Lib.join (ws.map (·.data.toList)) [32]=J))(hl:J.length<=1000000)(h0:0<ws.length)(hn:ws.length<=100)
  (hR: ∀W,Below w.heap.size w W->Calls Tryz.prog 218 #[.agg (fkq A1 A2 A3 A4 c1 c2 c3 c4 f 4 c)] W (EndW ws W)):
  Calls Tryz.prog 91 #[.agg (fkq A1 A2 A3 A4 c1 c2 c3 c4 f 4 c)] w fun e w'=>e=.returned (.string ⟨([97,108,111,110,103,32]++J).toArray⟩)∧Below w.heap.size w w':=by
 have kb:=heap_alloc_new w (.cells (fkq A1 A2 A3 A4 c1 c2 c3 c4 f 4 c) 128)
 have hall:Below w.heap.size w (w.alloc (.cells (fkq A1 A2 A3 A4 c1 c2 c3 c4 f 4 c) 128)):=(Below.refl _ w).alloc (Nat.le_refl _) _
 have hix: ∀W,(Instr.index 205 (.agg #[.string ⟨#[]⟩,.nilFunc,.nilFunc,.string ⟨#[115,116,111,110,101]⟩,.func (.func 211) #[] #[],.func (.func 212) #[] #[],.string ⟨#[119,105,100,116,104]⟩,.func (.func 213) #[] #[],.func (.func 214) #[] #[],.string ⟨#[99,111,117,114,115,101]⟩,.func (.func 215) #[] #[],.func (.func 216) #[] #[],.string ⟨#[97,108,111,110,103]⟩,.func (.func 217) #[] #[],.func (.func 218) #[] #[],.string ⟨#[108,101,118,101,108]⟩,.func (.func 219) #[] #[],.func (.func 220) #[] #[]]) (.int .u8 4)).run Tryz.prog W=.ok (.agg #[.string ⟨#[97,108,111,110,103]⟩,.func (.func 217) #[] #[],.func (.func 218) #[] #[]]) W:=fun _=>by kernel_rfl
 have hadd1: ∀W,(Op.stringOp .add ⟨#[97,108,111,110,103]⟩ ⟨#[32]⟩).run Tryz.prog W=.ok (.string ⟨#[97,108,111,110,103,32]⟩) W:=fun _=>by kernel_rfl
 have hadd2: ∀W,(Op.stringOp .add ⟨#[97,108,111,110,103,32]⟩ ⟨J.toArray⟩).run Tryz.prog W=.ok (.string ⟨([97,108,111,110,103,32]++J).toArray⟩) W:=fun W=>by
  rw[run_string_add W ⟨#[97,108,111,110,103,32]⟩ ⟨J.toArray⟩ (by decide) (by rw[ba_size];omega),show(⟨#[97,108,111,110,103,32]⟩:ByteArray)=⟨([97,108,111,110,103,32]:List UInt8).toArray⟩ from rfl,ba_append]
  simp
 have hlt:=lO kb
 have q0:=(blk_cells kb).1 4
 have whole:=fun(W:World) (k:W.heap[w.heap.size]?=some (.cells (fkq A1 A2 A3 A4 c1 c2 c3 c4 f 4 c) 128 (0,0)))=>CBox.whole (CBox.mk (f:=f) (c:=c) (k:=4) k)
 go_enter Tryz.func91,Tryz.ntmps91
 go_wp2
 generalize w.alloc (.cells (fkq A1 A2 A3 A4 c1 c2 c3 c4 f 4 c) 128)=W0 at*
 refine wp_region_held_drew (S:=fun W=>W.cell? ⟨w.heap.size,4,none⟩=some (.int .u8 4)) (by kernel_rfl) q0 (fun hHeld=> ?_)
 refine tH 1 (some 5) (v:= ?v16) rfl rfl (fun W hW=> ?hy16) ?hr16
 case hy16=>(try dsimp only at hW);go_simp;try with_reducible rfl
 try simp only[Act.put,q1,q2,q3]
 refine tH 2 (some 6) (v:= ?v17) rfl rfl (fun W hW=> ?hy17) ?hr17
 case hy17=>(try dsimp only at hW);go_simp;try with_reducible rfl
 try simp only[Act.put,q1,q2,q3]
 refine tH 3 (some 7) (v:= ?v18) rfl rfl (fun W hW=> ?hy18) ?hr18
 case hy18=>(try dsimp only at hW);go_simp;try with_reducible rfl
 try simp only[Act.put,q1,q2,q3]
 refine wpAnyH_ready (rs:=[0,5]) (by kernel_rfl) (by simp) ?_
 refine readyH (some 4) rfl rfl (fun K hK=> ?_) (readyH (some 3) rfl rfl (fun K hK=> ?_) AllReadyH.nil)
 ·go_simp
  refine(kinds_v _).mono ?_
  rintro e w1 ⟨rfl,hx⟩
  have kb1:=(hx.block w.heap.size hlt).trans kb
  have hall1:Below w.heap.size w w1:=hall.drew.trans (hx.mono hall.size)
  refine hK.out _ _ ((blk_cells kb1).1 4) (fun hHeld=> ?_)
  clear hK K hx kb hall
  try simp only[Act.put,q1,q2,q3]
  refine tH 4 (some 8) (v:= ?v19) rfl rfl (fun W hW=> ?hy19) ?hr19
  case hy19=>(try dsimp only at hW);go_simp;try with_reducible rfl
  try simp only[Act.put,q1,q2,q3]
  refine wpAnyH_ready (rs:=[5]) (by kernel_rfl) (by simp) ?_
  refine readyH (some 3) rfl rfl (fun K hK=> ?_) AllReadyH.nil
  go_simp
  have ha:=heap_alloc_new w1 (.cells #[.string ⟨#[]⟩,.nilFunc,.nilFunc] 204)
  have kb2:=(Below.heap_alloc w1 (.cells #[.string ⟨#[]⟩,.nilFunc,.nilFunc] 204) w.heap.size (lO kb1)).trans kb1
  have hall2:Below w.heap.size w (w1.alloc (.cells #[.string ⟨#[]⟩,.nilFunc,.nilFunc] 204)):=hall1.alloc hall1.size _
  refine hK.out _ _ ((blk_cells kb2).1 4) (fun hHeld=> ?_)
  clear hK K
  try simp only[Act.put,q1,q2,q3]
  obtain⟨W,hst,kp,hg⟩:=st_row _ w1.heap.size _ 204 _ #[.string ⟨#[97,108,111,110,103]⟩,.func (.func 217) #[] #[],.func (.func 218) #[] #[]] ha info_kind1 rfl (by simp[Value.oneCell'])
  have kbW:W.heap[w.heap.size]?=_:=(hg.block _ (lO kb2) (by have:=lO kb1;simp;omega)).trans kb2
  have hallW:Below w.heap.size w W:=hall2.grown hg hall2.size (fun k e=>by cases e;exact hall1.size)
  refine wpAnyH_ready (rs:=[6]) (by kernel_rfl) (by simp) ?_
  refine readyH none rfl rfl (fun K hK=> ?_) AllReadyH.nil
  go_simp
  refine hK.out _ _ ((blk_cells kbW).1 4) (fun hHeld=> ?_)
  clear hK K
  try simp only[Act.put,q1,q2,q3]
  refine wpAnyH_done (by kernel_rfl) ?_ _
  clear hHeld hix q0
  have hallW:=hallW.drew
  have kp:=(show W.drew.heap[w1.heap.size]?=_ from kp)
  have kbW:=(show W.drew.heap[w.heap.size]?=_ from kbW)
  go_wp2
  go_region_held3 (fun W=>(loadVar 128 ⟨w.heap.size,0,none⟩).run Tryz.prog W=.ok (.agg (fkq A1 A2 A3 A4 c1 c2 c3 c4 f 4 c)) W∧W.cell? ⟨w1.heap.size,0,none⟩=some (.string ⟨#[97,108,111,110,103]⟩)∧W.cell? ⟨w1.heap.size,2,none⟩=some (.func (.func 218) #[] #[])) (exact⟨whole _ kbW,(blk_cells kp).1 0,(blk_cells kp).1 2⟩) (first
   |(go_at_call 218;refine(hR _ hallW).mono ?_;rintro e w2 ⟨g,rfl,hg,hge,hx⟩;have kbW:=kE hx kbW;have kp:=kE hx kp;have hallW:=hallW.trans (hx.mono hallW.size);clear hx hR)
   |(go_at_call 119;refine(join_h g _ ws J _ hJ hl (nms_blk hg) h0 (Nat.le_refl _) hn).mono ?_;rintro e w3 ⟨rfl,hx⟩;have kbW:=kE hx kbW;have kp:=kE hx kp;have hallW:=hallW.trans (hx.mono hallW.size);clear hx))
  all_goals go_wp2
  all_goals go_ret
  all_goals exact⟨rfl,hallW⟩
 ·go_simp
  have ha:=heap_alloc_new W0.drew (.cells #[.string ⟨#[]⟩,.nilFunc,.nilFunc] 204)
  have kb1:=(Below.heap_alloc W0.drew (.cells #[.string ⟨#[]⟩,.nilFunc,.nilFunc] 204) w.heap.size hlt).trans kb
  have hall1:Below w.heap.size w (W0.drew.alloc (.cells #[.string ⟨#[]⟩,.nilFunc,.nilFunc] 204)):=hall.drew.alloc hall.size _
  refine hK.out _ _ ((blk_cells kb1).1 4) (fun hHeld=> ?_)
  clear hK K
  try simp only[Act.put,q1,q2,q3]
  refine wpAnyH_ready (rs:=[0]) (by kernel_rfl) (by simp) ?_
  refine readyH (some 4) rfl rfl (fun K hK=> ?_) AllReadyH.nil
  go_simp
  refine(kinds_v _).mono ?_
  rintro e w1 ⟨rfl,hx⟩
  have kb2:=(hx.block w.heap.size (lO kb1)).trans kb1
  have ha:=kE hx ha
  have hall2:Below w.heap.size w w1:=hall1.trans (hx.mono hall1.size)
  refine hK.out _ _ ((blk_cells kb2).1 4) (fun hHeld=> ?_)
  clear hK K hx
  try simp only[Act.put,q1,q2,q3]
  refine tH 4 (some 8) (v:= ?v20) rfl rfl (fun W hW=> ?hy20) ?hr20
  case hy20=>(try dsimp only at hW);go_simp;try with_reducible rfl
  try simp only[Act.put,q1,q2,q3]
  obtain⟨W,hst,kp,hg⟩:=st_row _ W0.heap.size _ 204 _ #[.string ⟨#[97,108,111,110,103]⟩,.func (.func 217) #[] #[],.func (.func 218) #[] #[]] ha info_kind1 rfl (by simp[Value.oneCell'])
  have kbW:W.heap[w.heap.size]?=_:=(hg.block _ (lO kb2) (by simp;omega)).trans kb2
  have hallW:Below w.heap.size w W:=hall2.grown hg hall2.size (fun k e=>by cases e;exact hall.size)
  clear hall hall1 hall2 kb kb1 kb2 ha hg
  refine wpAnyH_ready (rs:=[6]) (by kernel_rfl) (by simp) ?_
  refine readyH none rfl rfl (fun K hK=> ?_) AllReadyH.nil
  go_simp
  refine hK.out _ _ ((blk_cells kbW).1 4) (fun hHeld=> ?_)
  clear hK K
  try simp only[Act.put,q1,q2,q3]
  refine wpAnyH_done (by kernel_rfl) ?_ _
  clear hHeld hix q0
  have hallW:=hallW.drew
  have kp:=(show W.drew.heap[W0.heap.size]?=_ from kp)
  have kbW:=(show W.drew.heap[w.heap.size]?=_ from kbW)
  go_wp2
  go_region_held3 (fun W=>(loadVar 128 ⟨w.heap.size,0,none⟩).run Tryz.prog W=.ok (.agg (fkq A1 A2 A3 A4 c1 c2 c3 c4 f 4 c)) W∧W.cell? ⟨W0.heap.size,0,none⟩=some (.string ⟨#[97,108,111,110,103]⟩)∧W.cell? ⟨W0.heap.size,2,none⟩=some (.func (.func 218) #[] #[])) (exact⟨whole _ kbW,(blk_cells kp).1 0,(blk_cells kp).1 2⟩) (first
   |(go_at_call 218;refine(hR _ hallW).mono ?_;rintro e w2 ⟨g,rfl,hg,hge,hx⟩;have kbW:=kE hx kbW;have kp:=kE hx kp;have hallW:=hallW.trans (hx.mono hallW.size);clear hx hR)
   |(go_at_call 119;refine(join_h g _ ws J _ hJ hl (nms_blk hg) h0 (Nat.le_refl _) hn).mono ?_;rintro e w3 ⟨rfl,hx⟩;have kbW:=kE hx kbW;have kp:=kE hx kp;have hallW:=hallW.trans (hx.mono hallW.size);clear hx))
  all_goals go_wp2
  all_goals go_ret
  all_goals exact⟨rfl,hallW⟩
set_option maxHeartbeats 8000000 in
theorem line_level (c:Pl.Cal)(ws:List ByteArray)(J:List UInt8)(w:World)(hJ:Hid (Lib.join (ws.map (·.data.toList)) [32]=J))(hl:J.length<=1000000)(h0:0<ws.length)(hn:ws.length<=100)
  (hR: ∀W,Below w.heap.size w W->Calls Tryz.prog 220 #[.agg (fkq A1 A2 A3 A4 c1 c2 c3 c4 f 5 c)] W (EndW ws W)):
  Calls Tryz.prog 91 #[.agg (fkq A1 A2 A3 A4 c1 c2 c3 c4 f 5 c)] w fun e w'=>e=.returned (.string ⟨([108,101,118,101,108,32]++J).toArray⟩)∧Below w.heap.size w w':=by
 have kb:=heap_alloc_new w (.cells (fkq A1 A2 A3 A4 c1 c2 c3 c4 f 5 c) 128)
 have hall:Below w.heap.size w (w.alloc (.cells (fkq A1 A2 A3 A4 c1 c2 c3 c4 f 5 c) 128)):=(Below.refl _ w).alloc (Nat.le_refl _) _
 have hix: ∀W,(Instr.index 205 (.agg #[.string ⟨#[]⟩,.nilFunc,.nilFunc,.string ⟨#[115,116,111,110,101]⟩,.func (.func 211) #[] #[],.func (.func 212) #[] #[],.string ⟨#[119,105,100,116,104]⟩,.func (.func 213) #[] #[],.func (.func 214) #[] #[],.string ⟨#[99,111,117,114,115,101]⟩,.func (.func 215) #[] #[],.func (.func 216) #[] #[],.string ⟨#[97,108,111,110,103]⟩,.func (.func 217) #[] #[],.func (.func 218) #[] #[],.string ⟨#[108,101,118,101,108]⟩,.func (.func 219) #[] #[],.func (.func 220) #[] #[]]) (.int .u8 5)).run Tryz.prog W=.ok (.agg #[.string ⟨#[108,101,118,101,108]⟩,.func (.func 219) #[] #[],.func (.func 220) #[] #[]]) W:=fun _=>by kernel_rfl
 have hadd1: ∀W,(Op.stringOp .add ⟨#[108,101,118,101,108]⟩ ⟨#[32]⟩).run Tryz.prog W=.ok (.string ⟨#[108,101,118,101,108,32]⟩) W:=fun _=>by kernel_rfl
 have hadd2: ∀W,(Op.stringOp .add ⟨#[108,101,118,101,108,32]⟩ ⟨J.toArray⟩).run Tryz.prog W=.ok (.string ⟨([108,101,118,101,108,32]++J).toArray⟩) W:=fun W=>by
  rw[run_string_add W ⟨#[108,101,118,101,108,32]⟩ ⟨J.toArray⟩ (by decide) (by rw[ba_size];omega),show(⟨#[108,101,118,101,108,32]⟩:ByteArray)=⟨([108,101,118,101,108,32]:List UInt8).toArray⟩ from rfl,ba_append]
  simp
 have hlt:=lO kb
 have q0:=(blk_cells kb).1 4
 have whole:=fun(W:World) (k:W.heap[w.heap.size]?=some (.cells (fkq A1 A2 A3 A4 c1 c2 c3 c4 f 5 c) 128 (0,0)))=>CBox.whole (CBox.mk (f:=f) (c:=c) (k:=5) k)
 go_enter Tryz.func91,Tryz.ntmps91
 go_wp2
 generalize w.alloc (.cells (fkq A1 A2 A3 A4 c1 c2 c3 c4 f 5 c) 128)=W0 at*
 refine wp_region_held_drew (S:=fun W=>W.cell? ⟨w.heap.size,4,none⟩=some (.int .u8 5)) (by kernel_rfl) q0 (fun hHeld=> ?_)
 refine tH 1 (some 5) (v:= ?v21) rfl rfl (fun W hW=> ?hy21) ?hr21
 case hy21=>(try dsimp only at hW);go_simp;try with_reducible rfl
 try simp only[Act.put,q1,q2,q3]
 refine tH 2 (some 6) (v:= ?v22) rfl rfl (fun W hW=> ?hy22) ?hr22
 case hy22=>(try dsimp only at hW);go_simp;try with_reducible rfl
 try simp only[Act.put,q1,q2,q3]
 refine tH 3 (some 7) (v:= ?v23) rfl rfl (fun W hW=> ?hy23) ?hr23
 case hy23=>(try dsimp only at hW);go_simp;try with_reducible rfl
 try simp only[Act.put,q1,q2,q3]
 refine wpAnyH_ready (rs:=[0,5]) (by kernel_rfl) (by simp) ?_
 refine readyH (some 4) rfl rfl (fun K hK=> ?_) (readyH (some 3) rfl rfl (fun K hK=> ?_) AllReadyH.nil)
 ·go_simp
  refine(kinds_v _).mono ?_
  rintro e w1 ⟨rfl,hx⟩
  have kb1:=(hx.block w.heap.size hlt).trans kb
  have hall1:Below w.heap.size w w1:=hall.drew.trans (hx.mono hall.size)
  refine hK.out _ _ ((blk_cells kb1).1 4) (fun hHeld=> ?_)
  clear hK K hx kb hall
  try simp only[Act.put,q1,q2,q3]
  refine tH 4 (some 8) (v:= ?v24) rfl rfl (fun W hW=> ?hy24) ?hr24
  case hy24=>(try dsimp only at hW);go_simp;try with_reducible rfl
  try simp only[Act.put,q1,q2,q3]
  refine wpAnyH_ready (rs:=[5]) (by kernel_rfl) (by simp) ?_
  refine readyH (some 3) rfl rfl (fun K hK=> ?_) AllReadyH.nil
  go_simp
  have ha:=heap_alloc_new w1 (.cells #[.string ⟨#[]⟩,.nilFunc,.nilFunc] 204)
  have kb2:=(Below.heap_alloc w1 (.cells #[.string ⟨#[]⟩,.nilFunc,.nilFunc] 204) w.heap.size (lO kb1)).trans kb1
  have hall2:Below w.heap.size w (w1.alloc (.cells #[.string ⟨#[]⟩,.nilFunc,.nilFunc] 204)):=hall1.alloc hall1.size _
  refine hK.out _ _ ((blk_cells kb2).1 4) (fun hHeld=> ?_)
  clear hK K
  try simp only[Act.put,q1,q2,q3]
  obtain⟨W,hst,kp,hg⟩:=st_row _ w1.heap.size _ 204 _ #[.string ⟨#[108,101,118,101,108]⟩,.func (.func 219) #[] #[],.func (.func 220) #[] #[]] ha info_kind1 rfl (by simp[Value.oneCell'])
  have kbW:W.heap[w.heap.size]?=_:=(hg.block _ (lO kb2) (by have:=lO kb1;simp;omega)).trans kb2
  have hallW:Below w.heap.size w W:=hall2.grown hg hall2.size (fun k e=>by cases e;exact hall1.size)
  refine wpAnyH_ready (rs:=[6]) (by kernel_rfl) (by simp) ?_
  refine readyH none rfl rfl (fun K hK=> ?_) AllReadyH.nil
  go_simp
  refine hK.out _ _ ((blk_cells kbW).1 4) (fun hHeld=> ?_)
  clear hK K
  try simp only[Act.put,q1,q2,q3]
  refine wpAnyH_done (by kernel_rfl) ?_ _
  clear hHeld hix q0
  have hallW:=hallW.drew
  have kp:=(show W.drew.heap[w1.heap.size]?=_ from kp)
  have kbW:=(show W.drew.heap[w.heap.size]?=_ from kbW)
  go_wp2
  go_region_held3 (fun W=>(loadVar 128 ⟨w.heap.size,0,none⟩).run Tryz.prog W=.ok (.agg (fkq A1 A2 A3 A4 c1 c2 c3 c4 f 5 c)) W∧W.cell? ⟨w1.heap.size,0,none⟩=some (.string ⟨#[108,101,118,101,108]⟩)∧W.cell? ⟨w1.heap.size,2,none⟩=some (.func (.func 220) #[] #[])) (exact⟨whole _ kbW,(blk_cells kp).1 0,(blk_cells kp).1 2⟩) (first
   |(go_at_call 220;refine(hR _ hallW).mono ?_;rintro e w2 ⟨g,rfl,hg,hge,hx⟩;have kbW:=kE hx kbW;have kp:=kE hx kp;have hallW:=hallW.trans (hx.mono hallW.size);clear hx hR)
   |(go_at_call 119;refine(join_h g _ ws J _ hJ hl (nms_blk hg) h0 (Nat.le_refl _) hn).mono ?_;rintro e w3 ⟨rfl,hx⟩;have kbW:=kE hx kbW;have kp:=kE hx kp;have hallW:=hallW.trans (hx.mono hallW.size);clear hx))
  all_goals go_wp2
  all_goals go_ret
  all_goals exact⟨rfl,hallW⟩
 ·go_simp
  have ha:=heap_alloc_new W0.drew (.cells #[.string ⟨#[]⟩,.nilFunc,.nilFunc] 204)
  have kb1:=(Below.heap_alloc W0.drew (.cells #[.string ⟨#[]⟩,.nilFunc,.nilFunc] 204) w.heap.size hlt).trans kb
  have hall1:Below w.heap.size w (W0.drew.alloc (.cells #[.string ⟨#[]⟩,.nilFunc,.nilFunc] 204)):=hall.drew.alloc hall.size _
  refine hK.out _ _ ((blk_cells kb1).1 4) (fun hHeld=> ?_)
  clear hK K
  try simp only[Act.put,q1,q2,q3]
  refine wpAnyH_ready (rs:=[0]) (by kernel_rfl) (by simp) ?_
  refine readyH (some 4) rfl rfl (fun K hK=> ?_) AllReadyH.nil
  go_simp
  refine(kinds_v _).mono ?_
  rintro e w1 ⟨rfl,hx⟩
  have kb2:=(hx.block w.heap.size (lO kb1)).trans kb1
  have ha:=kE hx ha
  have hall2:Below w.heap.size w w1:=hall1.trans (hx.mono hall1.size)
  refine hK.out _ _ ((blk_cells kb2).1 4) (fun hHeld=> ?_)
  clear hK K hx
  try simp only[Act.put,q1,q2,q3]
  refine tH 4 (some 8) (v:= ?v25) rfl rfl (fun W hW=> ?hy25) ?hr25
  case hy25=>(try dsimp only at hW);go_simp;try with_reducible rfl
  try simp only[Act.put,q1,q2,q3]
  obtain⟨W,hst,kp,hg⟩:=st_row _ W0.heap.size _ 204 _ #[.string ⟨#[108,101,118,101,108]⟩,.func (.func 219) #[] #[],.func (.func 220) #[] #[]] ha info_kind1 rfl (by simp[Value.oneCell'])
  have kbW:W.heap[w.heap.size]?=_:=(hg.block _ (lO kb2) (by simp;omega)).trans kb2
  have hallW:Below w.heap.size w W:=hall2.grown hg hall2.size (fun k e=>by cases e;exact hall.size)
  clear hall hall1 hall2 kb kb1 kb2 ha hg
  refine wpAnyH_ready (rs:=[6]) (by kernel_rfl) (by simp) ?_
  refine readyH none rfl rfl (fun K hK=> ?_) AllReadyH.nil
  go_simp
  refine hK.out _ _ ((blk_cells kbW).1 4) (fun hHeld=> ?_)
  clear hK K
  try simp only[Act.put,q1,q2,q3]
  refine wpAnyH_done (by kernel_rfl) ?_ _
  clear hHeld hix q0
  have hallW:=hallW.drew
  have kp:=(show W.drew.heap[W0.heap.size]?=_ from kp)
  have kbW:=(show W.drew.heap[w.heap.size]?=_ from kbW)
  go_wp2
  go_region_held3 (fun W=>(loadVar 128 ⟨w.heap.size,0,none⟩).run Tryz.prog W=.ok (.agg (fkq A1 A2 A3 A4 c1 c2 c3 c4 f 5 c)) W∧W.cell? ⟨W0.heap.size,0,none⟩=some (.string ⟨#[108,101,118,101,108]⟩)∧W.cell? ⟨W0.heap.size,2,none⟩=some (.func (.func 220) #[] #[])) (exact⟨whole _ kbW,(blk_cells kp).1 0,(blk_cells kp).1 2⟩) (first
   |(go_at_call 220;refine(hR _ hallW).mono ?_;rintro e w2 ⟨g,rfl,hg,hge,hx⟩;have kbW:=kE hx kbW;have kp:=kE hx kp;have hallW:=hallW.trans (hx.mono hallW.size);clear hx hR)
   |(go_at_call 119;refine(join_h g _ ws J _ hJ hl (nms_blk hg) h0 (Nat.le_refl _) hn).mono ?_;rintro e w3 ⟨rfl,hx⟩;have kbW:=kE hx kbW;have kp:=kE hx kp;have hallW:=hallW.trans (hx.mono hallW.size);clear hx))
  all_goals go_wp2
  all_goals go_ret
  all_goals exact⟨rfl,hallW⟩
end Go.Proofs.YtgbpekeoegfjpaaGreatDoor
set_option maxRecDepth 100000
namespace Go.Proofs.YtgbpekeoegfjpaaGreatDoor
open Go.RowKit
variable (A1 A2 A3 A4 : Option Addr) (c1 c2 c3 c4 : Nat) (f : Pl.Fld)
attribute [-go_sem] run_equalIn_agg loadVar storeVar
attribute [local go_sem] lv_int lv_bool lv_u8 lv_string
theorem liN_at {f:Pl.Fld}{i:Int}{n:Nat}(h:i=(n:Int))(hn:n<f.li.length):Pl.liN f i=f.li[n]:=by
 unfold Pl.liN
 rw[h,Int.toNat_natCast,List.getElem?_eq_getElem hn]
theorem stN_at {f:Pl.Fld}{i:Int}{n:Nat}(h:i=(n:Int))(hn:n<f.st.length):Pl.stN f i=f.st[n].1:=by
 unfold Pl.stN
 rw[h,Int.toNat_natCast,List.getElem?_eq_getElem hn]
theorem lineB_of {f:Pl.Fld}{c:Pl.Cal}{k:ByteArray}{ws:List ByteArray}(h:Pl.callW f c=k::ws)(h0:0<ws.length):(⟨((k.data.toList++[(32:UInt8)])++Lib.join (ws.map (fun x:ByteArray=>x.data.toList)) [32]).toArray⟩:ByteArray)=Pl.lineB f c:=by
 unfold Pl.lineB Pl.joinB Pl.mkB
 rw[h]
 cases ws with
 |nil=>simp at h0
 |cons a r=>simp[Lib.join]
theorem ends_of {f:Pl.Fld}{c:Pl.Cal}{k:ByteArray}{ws:List ByteArray}{b:List UInt8}{F:FuncId}{A:Array Value}{w:World}(h:Pl.callW f c=k::ws)(h0:0<ws.length)(hb:b=k.data.toList++[(32:UInt8)])(hc:Calls Tryz.prog F A w fun e w'=>e=.returned (.string ⟨(b++Lib.join (ws.map (fun x:ByteArray=>x.data.toList)) [32]).toArray⟩)∧Below w.heap.size w w'):
  Calls Tryz.prog F A w fun e w'=>e=.returned (.string (Pl.lineB f c))∧Below w.heap.size w w':=by
 subst hb
 rw[lineB_of h h0]at hc
 exact hc
set_option maxHeartbeats 2000000 in
theorem line_a (c:Pl.Cal)(w:World)(hE:Env w)(hf:FldS w w.heap.size A1 A2 A3 A4 f)(hF:Pl.fieldE f=0)(hC:Pl.callE f c=0):
  Calls Tryz.prog 91 #[.agg (fcq A1 A2 A3 A4 c1 c2 c3 c4 f c)] w fun e w'=>e=.returned (.string (Pl.lineB f c))∧Below w.heap.size w w':=by
 have hok:=Pl.fieldE_ok hF
 have ht:=Pl.callE_tab hC
 have hcr:c.kind=3->c.crs.ok=true:=fun hk=>(Pl.callE_three hC hk).1
 have hsz:=Pl.callW_size hok ht hcr
 obtain⟨ilim,hlim⟩: ∃n:Nat,c.lim=n:=⟨c.lim.toNat,by have:=ht.1;unfold Pl.inN at this;omega⟩
 have llim:ilim<f.li.length:=by have:=ht.1;unfold Pl.inN at this;omega
 obtain⟨ifr,hfr⟩: ∃n:Nat,c.fr=n:=⟨c.fr.toNat,by have:=ht.2.1;unfold Pl.inN at this;omega⟩
 have lfr:ifr<f.st.length:=by have:=ht.2.1;unfold Pl.inN at this;omega
 have a1:=liN_at hlim llim
 have a2:=stN_at hfr lfr
 have hsm: ∀(k:ByteArray) (ws:List ByteArray),Pl.callW f c=k::ws->ws.length<=100->(Lib.join (ws.map (·.data.toList)) [32]).length<=1000000:=fun k ws e hl=>by
  have:=Pl.joinB_size (ws:=ws) (n:=200) fun x hx=>hsz x (by rw[e];simp[hx])
  omega
 have ez:(-1000000<=c.size∧c.size<=1000000)∧ -1000000<=c.er∧c.er<=1000000:=by have s:=ht.2.2;omega
 have far:c.kind=3∨c.kind=4∨c.kind=5-> ∃n:Nat,c.till=n∧n<f.st.length:=fun hk=>by
  have:=Pl.tab_far ht hk
  unfold Pl.inN at this
  exact⟨c.till.toNat,by omega,by omega⟩
 have oth:c.kind=2∨c.kind=4-> ∃n:Nat,c.oth=n∧n<f.li.length:=fun hk=>by
  have:=Pl.tab_oth ht hk
  unfold Pl.inN at this
  exact⟨c.oth.toNat,by omega,by omega⟩
 rcases Pl.tab_kind ht with hk|hk|hk|hk|hk
 ·have e:Pl.callW f c=Pl.wStone::[f.li[ilim],f.st[ifr].1,Pl.spelt c.size,Pl.spelt c.er]:=by unfold Pl.callW;rw[if_pos hk,a1,a2]
  have h:=line_stone A1 A2 A3 A4 c1 c2 c3 c4 f c _ _ w (Lib.hid rfl) (hsm _ _ e (by simp)) (by simp) (by simp) (fun W hW=>by have:=stoneWords_a A1 A2 A3 A4 c1 c2 c3 c4 f c W (hE.up hW) (hf.up hW) ilim ifr hlim llim hfr lfr ez.1 ez.2;rw[hk]at this;exact this)
  rw[hk]
  exact ends_of e (by simp) rfl h
 ·obtain⟨ioth,hoth,loth⟩:=oth (.inl hk)
  have e:Pl.callW f c=Pl.wWidth::[f.li[ilim],f.li[ioth],f.st[ifr].1,Pl.spelt c.size,Pl.spelt c.er]:=by unfold Pl.callW;rw[if_neg (by omega),if_pos hk,a1,a2,liN_at hoth loth]
  have h:=line_width A1 A2 A3 A4 c1 c2 c3 c4 f c _ _ w (Lib.hid rfl) (hsm _ _ e (by simp)) (by simp) (by simp) (fun W hW=>by have:=widthWords_a A1 A2 A3 A4 c1 c2 c3 c4 f c W (hE.up hW) (hf.up hW) ilim ioth ifr hlim llim hoth loth hfr lfr ez.1 ez.2;rw[hk]at this;exact this)
  rw[hk]
  exact ends_of e (by simp) rfl h
 ·obtain⟨itill,htill,ltill⟩:=far (.inl hk)
  obtain⟨⟨r0,r1⟩,⟨n0,n1⟩,⟨l0,l1⟩,_,⟨x0,x1⟩,s0,s1⟩:=Pl.Crs.ok_iff (hcr hk)
  have e:Pl.callW f c=Pl.wCourse::[f.li[ilim],f.st[ifr].1,f.st[itill].1,Pl.lengthV c.crs.l,⟨#[98,121]⟩,Pl.quadB c.crs.b,⟨#[103,105,118,101]⟩,Pl.spelt c.crs.n,⟨#[119,101,97,114]⟩,Pl.spelt c.crs.x,⟨#[115,108,97,99,107]⟩,Pl.spelt c.crs.s]:=by
   unfold Pl.callW;rw[if_neg (by omega),if_neg (by omega),if_pos hk,a1,a2,stN_at htill ltill];rfl
  have h:=line_course A1 A2 A3 A4 c1 c2 c3 c4 f c _ _ w (Lib.hid rfl) (hsm _ _ e (by simp)) (by simp) (by simp) (fun W hW=>by have:=courseWords_a A1 A2 A3 A4 c1 c2 c3 c4 f c W (hE.up hW) (hf.up hW) ilim ifr itill hlim llim hfr lfr htill ltill (by omega) (by omega) (by omega);rw[hk]at this;exact this)
  rw[hk]
  exact ends_of e (by simp) rfl h
 ·obtain⟨itill,htill,ltill⟩:=far (.inr (.inl hk))
  obtain⟨ioth,hoth,loth⟩:=oth (.inr hk)
  have e:Pl.callW f c=Pl.wAlong::[f.li[ilim],f.li[ioth],f.st[ifr].1,f.st[itill].1]:=by unfold Pl.callW;rw[if_neg (by omega),if_neg (by omega),if_neg (by omega),if_pos hk,a1,a2,liN_at hoth loth,stN_at htill ltill]
  have h:=line_along A1 A2 A3 A4 c1 c2 c3 c4 f c _ _ w (Lib.hid rfl) (hsm _ _ e (by simp)) (by simp) (by simp) (fun W hW=>by have:=alongWords_a A1 A2 A3 A4 c1 c2 c3 c4 f c W (hE.up hW) (hf.up hW) ilim ioth ifr itill hlim llim hoth loth hfr lfr htill ltill;rw[hk]at this;exact this)
  rw[hk]
  exact ends_of e (by simp) rfl h
 ·obtain⟨itill,htill,ltill⟩:=far (.inr (.inr hk))
  have e:Pl.callW f c=Pl.wLevel::[f.li[ilim],f.st[ifr].1,f.st[itill].1,Pl.spelt c.size,Pl.spelt c.er]:=by unfold Pl.callW;rw[if_neg (by omega),if_neg (by omega),if_neg (by omega),if_neg (by omega),a1,a2,stN_at htill ltill]
  have h:=line_level A1 A2 A3 A4 c1 c2 c3 c4 f c _ _ w (Lib.hid rfl) (hsm _ _ e (by simp)) (by simp) (by simp) (fun W hW=>by have:=levelWords_a A1 A2 A3 A4 c1 c2 c3 c4 f c W (hE.up hW) (hf.up hW) ilim ifr itill hlim llim hfr lfr htill ltill ez.1 ez.2;rw[hk]at this;exact this)
  rw[hk]
  exact ends_of e (by simp) rfl h
noncomputable def Pl.writeV (f:Pl.Fld)(c:Pl.Cal):ByteArray:=if Pl.checkCallE f c=0 then Pl.lineB f c else ⟨#[]⟩
end Go.Proofs.YtgbpekeoegfjpaaGreatDoor
set_option maxRecDepth 100000
namespace Go.Proofs.YtgbpekeoegfjpaaGreatDoor
open Go.RowKit
variable (A1 A2 A3 A4 : Option Addr) (c1 c2 c3 c4 : Nat) (f : Pl.Fld)
attribute [-go_sem] run_equalIn_agg loadVar storeVar
attribute [local go_sem] lv_int lv_bool lv_u8 lv_string lv_calls
theorem addP (P Q:List UInt8)(h:P.length<=1000000000000)(h2:Q.length<=1000000)(W:World):(Op.stringOp .add ⟨P.toArray⟩ ⟨Q.toArray⟩).run Tryz.prog W=.ok (.string ⟨(P++Q).toArray⟩) W:=by
 rw[run_string_add_sum W ⟨P.toArray⟩ ⟨Q.toArray⟩ (by rw[ba_size,ba_size];omega),ba_append]
 simp
theorem ba_listP (s:ByteArray): ∃l:List UInt8,s=⟨l.toArray⟩∧l.length=s.size:=⟨s.data.toList,by simp,by simp⟩
theorem itoa_i (n:Int)(w:World)(hE:Env w)(h0: -1000000<=n)(h1:n<=1000000):Calls Tryz.prog 120 #[.int .i64 n] w fun e w'=>e=.returned (.string ⟨(Lib.itoa n).toArray⟩)∧Below w.heap.size w w':=itoa_lib n w hE (by omega) (by omega)
set_option maxHeartbeats 16000000 in
theorem PrintDeeds_ok (A:Option Addr)(c:Nat)(l:List (Pl.Ded×Option Addr×Nat))(w:World)(hEn:Env w)(hf:FldS w w.heap.size A1 A2 A3 A4 f)(hm:Small f)(hc:Caps c1 c2 c3 c4 f)(hD:DedS w w.heap.size A l)(hlc:l.length<=c)(hk: ∀x∈l,∀c∈x.1.calls,c.kind<=255)(hE:Pl.deedsE f (l.map (·.1))=0):
  Calls Tryz.prog 61 #[.agg (fq A1 A2 A3 A4 c1 c2 c3 c4 f),.slice A l.length c] w fun e w'=>e=.returned (.string ⟨(Pl.deedsL f (l.map (·.1))).toArray⟩)∧Below w.heap.size w w':=by
 have hF:Pl.fieldE f=0:=by
  unfold Pl.deedsE at hE
  split at hE
  ·assumption
  ·exact absurd hE ‹_›
 have h60:l.length<=60:=by
  unfold Pl.deedsE at hE
  rw[if_pos hF]at hE
  split at hE
  ·cases hE
  ·rename_i h;simpa using h
 have hdo: ∀d∈l,Pl.DedOk f d.1:=fun d hd=>by
  unfold Pl.deedsE at hE
  rw[if_pos hF,if_neg (by simp;omega)]at hE
  exact(Pl.dedsGo_ok hE).1 d.1 (List.mem_map_of_mem hd)
 have hfo:=Pl.fieldE_ok hF
 have hn: ∀x∈l,x.1.name.size<=100000:=fun x hx=>by have:=Pl.name_size (hdo x hx).name;omega
 have hres:Hid ((l.take l.length).flatMap (fun x=>Pl.dedL f x.1)=Pl.deedsL f (l.map (·.1))):=Lib.hid (by
  rw[List.take_length,Pl.deedsL_eq (fun d hd=>by obtain⟨x,hx,rfl⟩:=List.mem_map.1 hd;exact hdo x hx),List.flatMap_map])
 obtain⟨R,hR⟩: ∃R,Pl.deedsL f (l.map (·.1))=R:=⟨_,rfl⟩
 rw[hR]at hres ⊢
 clear hR
 have kf:=heap_alloc_new w (.cells (fq A1 A2 A3 A4 c1 c2 c3 c4 f) 28)
 have hb0:Below w.heap.size w (w.alloc (.cells (fq A1 A2 A3 A4 c1 c2 c3 c4 f) 28)):=(Below.refl _ w).alloc (Nat.le_refl _) _
 have l01:=ld_row kf Tryz.underlying28 rfl info_fld
 have pk:=CheckDeeds_a A1 A2 A3 A4 c1 c2 c3 c4 f A c l _ (hf.up hb0) hm hc (⟨hD.row.up hb0,fun x hx=>(hD.own x hx).up hb0⟩:DedS _ _ A l) hlc hk hn (by omega)
 rw[hE]at pk
 have HF:=Lib.hid hF
 have Hdo:=Lib.hid hdo
 have Hfo:=Lib.hid hfo
 clear hF hE hdo hfo hn
 go_enter Tryz.func61,Tryz.ntmps61
 go_wp2_with (go_at_call 48;refine pk.mono ?_;rintro e w1 ⟨rfl,hx⟩;have kf:=kE hx kf;have hall:Below w.heap.size w w1:=hb0.trans (hx.mono hb0.size);clear l01)
 have hltkf:=lO kf
 have hsz:=hall.size
 have hbd:IsBd w1.heap.size w1.heap.size [] (w1.alloc (.cells #[.pointer none,.slice none 0 0] 154)):=Lib.IsBuilderF.of (Lib.fresh_isBuilder _ _ _)
 have kf:=(Below.heap_alloc _ (.cells #[.pointer none,.slice none 0 0] 154) _ hltkf).trans kf
 have hall:Below w.heap.size w (w1.alloc (.cells #[.pointer none,.slice none 0 0] 154)):=hall.trans ((Below.refl _ w1).alloc hsz _)
 clear pk hb0 hx
 go_loopw [16] (fun i wr=> ∃(k:Nat),k<=l.length∧i=.int .i64 k∧IsBd w1.heap.size w1.heap.size ((l.take k).flatMap (fun x=>Pl.dedL f x.1)) wr∧wr.heap[w.heap.size]?=some (.cells (fq A1 A2 A3 A4 c1 c2 c3 c4 f) 28 (0,0))∧Below w.heap.size w wr) (fun i _=>l.length-(intOf i).toNat)
 case atStart=>exact⟨0,by omega,rfl,by rw[Pl.take_zero];exact hbd,kf,hall⟩
 case round=>
  clear kf hall hsz hbd
  obtain⟨k,hkl,rfl,hbd,kf,hall⟩:=hrel
  have hltb:=hbd.lt
  have hsz:=hall.size
  by_cases hlt:k<l.length
  ·obtain⟨g,o,hP,hg,u0⟩:=Dds.ld hD.row hlt
   have hmem:=List.getElem_mem hlt
   have hcl:=hD.own _ hmem
   have hkc:=hk _ hmem
   have hok:=Hdo.out _ hmem
   have hpre:=Pl.take_len (fun x:Pl.Ded×Option Addr×Nat=>Pl.dedL f x.1) l 70000 (fun x hx=>Pl.dedL_len Hfo.out (Hdo.out x hx)) k
   have HN:=Lib.hid (Pl.take_succ (fun x:Pl.Ded×Option Addr×Nat=>Pl.dedL f x.1) hlt)
   obtain⟨PP,hPP⟩: ∃X,(l.take k).flatMap (fun x=>Pl.dedL f x.1)=X:=⟨_,rfl⟩
   have HPP:=Lib.hid hPP
   rw[hPP]at hbd HN hpre
   have hpp:PP.length<=4200000:=Nat.le_trans hpre (by have:=Nat.mul_le_mul_right 70000 (show k<=60 by omega);omega)
   clear hPP hpre hmem
   obtain⟨⟨⟨nm,y,r,cs⟩,P,p2⟩,hbd2⟩: ∃x,l[k]=x:=⟨_,rfl⟩
   rw[hbd2]at u0 hcl hkc hok HN
   have hnm:=Pl.name_size hok.name
   have hy:=hok.year
   have hr:=hok.rank
   have hcs20:=hok.few
   have hcal:=hok.calls
   have h100:=Pl.dedW_len hnm hy hr
   have HQ:=Lib.hid (Pl.dedW_text ⟨nm,y,r,cs⟩).symm
   simp only at u0 hcl hkc hnm hy hr hcs20 hcal
   clear hbd2 hok
   obtain⟨nl,rfl,hnl⟩:=ba_listP nm
   rw[<-hnl]at hnm
   clear hnl
   obtain⟨D,hDD⟩: ∃X,Pl.lineL (Pl.dedW ⟨⟨nl.toArray⟩,y,r,cs⟩)=X:=⟨_,rfl⟩
   have HN2:Hid ((l.take (k+1)).flatMap (fun x=>Pl.dedL f x.1)=PP++(D++cs.flatMap (Pl.callL f))):=Lib.hid (by rw[HN.out];unfold Pl.dedL;rw[hDD])
   have HQ:Hid (((((([100,101,101,100,32]++nl)++[32])++Lib.itoa y)++[32])++Lib.itoa r)++[10]=D):=Lib.hid (by rw[<-hDD];exact HQ.out)
   rw[hDD]at h100
   clear HN hDD
   have iy:(Lib.itoa y).length<=21:=Lib.itoa_length_le y (by omega) (by omega)
   have ir:(Lib.itoa r).length<=21:=Lib.itoa_length_le r (by omega) (by omega)
   have t1:=fun W=>addP [100,101,101,100,32] nl (by decide) (by omega) W
   obtain⟨Q1,hQ1⟩: ∃X,[100,101,101,100,32]++nl=X:=⟨_,rfl⟩
   have g1:Q1.length<=100:=by rw[<-hQ1];simp;omega
   rw[hQ1]at t1 HQ
   have t2:=fun W=>addP Q1 [32] (by omega) (by decide) W
   obtain⟨Q2,hQ2⟩: ∃X,Q1++[32]=X:=⟨_,rfl⟩
   have g2:Q2.length<=200:=by rw[<-hQ2];simp;omega
   rw[hQ2]at t2 HQ
   have t3:=fun W=>addP Q2 (Lib.itoa y) (by omega) (by omega) W
   obtain⟨Q3,hQ3⟩: ∃X,Q2++(Lib.itoa y)=X:=⟨_,rfl⟩
   have g3:Q3.length<=300:=by rw[<-hQ3];simp;omega
   rw[hQ3]at t3 HQ
   have t4:=fun W=>addP Q3 [32] (by omega) (by decide) W
   obtain⟨Q4,hQ4⟩: ∃X,Q3++[32]=X:=⟨_,rfl⟩
   have g4:Q4.length<=400:=by rw[<-hQ4];simp;omega
   rw[hQ4]at t4 HQ
   have t5:=fun W=>addP Q4 (Lib.itoa r) (by omega) (by omega) W
   obtain⟨Q5,hQ5⟩: ∃X,Q4++(Lib.itoa r)=X:=⟨_,rfl⟩
   have g5:Q5.length<=500:=by rw[<-hQ5];simp;omega
   rw[hQ5]at t5 HQ
   have t6:=fun W=>addP Q5 [10] (by omega) (by decide) W
   rw[HQ.out]at t6
   clear hQ1 hQ2 hQ3 hQ4 hQ5
   subst hP
   have e1:(0:Int)<=(k:Int):=by omega
   have e2:(k:Int)<(l.length:Int):=by omega
   have u1:=u0 _ hall
   have kn:=heap_alloc_new wr (.cells #[.string ⟨#[]⟩,.int .i64 0,.int .i64 0,.slice none 0 0] 90)
   obtain⟨W1,st1,k1,hg1⟩:=st_row (wr.alloc (.cells #[.string ⟨#[]⟩,.int .i64 0,.int .i64 0,.slice none 0 0] 90)) wr.heap.size 90 90 #[.string ⟨#[]⟩,.int .i64 0,.int .i64 0,.slice none 0 0] #[.string ⟨nl.toArray⟩,.int .i64 y,.int .i64 r,.slice P cs.length p2] kn (by kernel_rfl) rfl (by simp[Value.oneCell'])
   have hx1:Below wr.heap.size wr W1:=((Below.refl _ wr).alloc (Nat.le_refl _) _).grown hg1 (by simp) (fun j e=>by cases e;exact Nat.le_refl _)
   have hbd1:=hbd.below hx1
   have kf1:=kE hx1 kf
   have hall1:=hall.trans (hx1.mono (by omega))
   have hne:wr.heap.size≠w1.heap.size:=by omega
   have hW1:=hx1.size
   clear kn u0 hbd kf
   have py:=fun W (hW:Below w.heap.size w W)=>itoa_i y W (hEn.up hW) (by omega) (by omega)
   have pr:=fun W (hW:Below w.heap.size w W)=>itoa_i r W (hEn.up hW) (by omega) (by omega)
   go_wp2
   clear u1 st1 hx1 hall hg1
   obtain⟨ad,had⟩: ∃n,wr.heap.size=n:=⟨_,rfl⟩
   rw[had]at k1 hne hW1 hltb
   simp only[had]
   have qn:=(blk_cells k1).1 0
   have k1:=(show W1.drew.heap[ad]?=_ from k1)
   have kf1:=(show W1.drew.heap[w.heap.size]?=_ from kf1)
   have hall1:=hall1.drew
   have hbd1:=(show IsBd w1.heap.size w1.heap.size PP W1.drew from hbd1)
   go_region_held3 (fun W=>W.cell? ⟨ad,0,none⟩=some (.string ⟨nl.toArray⟩)∧W.cell? ⟨ad,1,none⟩=some (.int .i64 y)∧W.cell? ⟨ad,2,none⟩=some (.int .i64 r)) (exact⟨(blk_cells k1).1 0,(blk_cells k1).1 1,(blk_cells k1).1 2⟩) (first
    |(go_at_call 120;refine(py _ hall1).mono ?_;rintro e w2 ⟨rfl,hx⟩;have k1:=kE hx k1;have kf1:=kE hx kf1;have hbd1:=hbd1.below hx;have hall1:=hall1.trans (hx.mono hall1.size);clear hx py)
    |(go_at_call 120;refine(pr _ hall1).mono ?_;rintro e w2 ⟨rfl,hx⟩;have k1:=kE hx k1;have kf1:=kE hx kf1;have hbd1:=hbd1.below hx;have hall1:=hall1.trans (hx.mono hall1.size);clear hx pr)
    |(go_at_call 118;refine(writeS w1.heap.size w1.heap.size PP D _ hbd1 (by omega)).mono ?_;rintro e w3 ⟨rfl,hbd3,hx3,hk3⟩;have k1:=hk3.at_ k1 hne (by decide);have kf1:=(hx3.block w.heap.size (by omega)).trans kf1;have hall1:=hall1.trans (hx3.mono (by omega));clear hx3 hk3))
   all_goals have q3:=(blk_cells k1).1 3
   all_goals clear k1 qn HQ t1 t2 t3 t4 t5 t6
   all_goals go_wp2
   all_goals clear q3 hbd1
   all_goals (
    have HS:=Lib.hid hbd3
    clear hbd3
    go_loopw [38] (fun i wr=> ∃(j:Nat),j<=cs.length∧i=.int .i64 j∧IsBd w1.heap.size w1.heap.size (PP++(D++(cs.take j).flatMap (Pl.callL f))) wr∧wr.heap[w.heap.size]?=some (.cells (fq A1 A2 A3 A4 c1 c2 c3 c4 f) 28 (0,0))∧Below w.heap.size w wr) (fun i _=>cs.length-(intOf i).toNat)
    case atStart=>exact⟨0,by omega,rfl,by rw[Pl.take_zero,List.append_nil];exact HS.out,kf1,hall1⟩
    case round=>
     clear kf1 hall1 HS
     obtain⟨j,hj,rfl,hbd,kf,hall⟩:=hrel
     have hltb:=hbd.lt
     have hsz:=hall.size
     by_cases hjt:j<cs.length
     ·obtain⟨g2,o2,hP2,hg2,v0⟩:=Cals.ld hcl hjt
      have hca:=hcal _ (List.getElem_mem hjt)
      have hkk:=hkc _ (List.getElem_mem hjt)
      have hclen:=Pl.callL_len Hfo.out hca.1
      have hpre:=Pl.take_len (Pl.callL f) cs 3001 (fun c hc=>Pl.callL_len Hfo.out (hcal c hc).1) j
      have hjm:j*3001<=60020:=by have:=Nat.mul_le_mul_right 3001 (show j<=20 by omega);omega
      have HM:=Lib.hid (Pl.take_succ (Pl.callL f) hjt)
      obtain⟨c,hcc⟩: ∃c,cs[j]=c:=⟨_,rfl⟩
      rw[hcc]at v0 hca hkk HM hclen
      clear hcc
      obtain⟨QQ,hQQ⟩: ∃X,PP++(D++(cs.take j).flatMap (Pl.callL f))=X:=⟨_,rfl⟩
      have hqq:QQ.length<=10000000:=by rw[<-hQQ,List.length_append,List.length_append];omega
      have HM2:Hid (PP++(D++(cs.take (j+1)).flatMap (Pl.callL f))=QQ++Pl.callL f c):=Lib.hid (by rw[HM.out,<-hQQ];simp)
      rw[hQQ]at hbd
      clear HM hQQ hpre
      obtain⟨u,hu⟩: ∃u,Pl.lineB f c=u:=⟨_,rfl⟩
      obtain⟨ul,rfl,hul⟩:=ba_listP u
      have hcL:Pl.callL f c=ul++[10]:=by unfold Pl.callL;rw[hu]
      rw[hcL]at hclen HM2
      have hul2:ul.length<=3001:=by simp at hclen;omega
      have t1:=fun W=>addP ul [10] (by omega) (by decide) W
      have pl:=fun W (hW:Below w.heap.size w W)=>line_a A1 A2 A3 A4 c1 c2 c3 c4 f c W (hEn.up hW) (hf.up hW) HF.out hca.1
      rw[hu]at pl
      clear hu hul hcL hca
      subst hP2
      have e3:(0:Int)<=(j:Int):=by omega
      have e4:(j:Int)<(cs.length:Int):=by omega
      have v1:=v0 _ hall
      have kn:=heap_alloc_new wr (.cells z13 48)
      obtain⟨W2,st2,k2,hg3⟩:=st_row (wr.alloc (.cells z13 48)) wr.heap.size 48 48 z13 (kq c) kn info_cal rfl (by simp[Value.oneCell'])
      have hx2:Below wr.heap.size wr W2:=((Below.refl _ wr).alloc (Nat.le_refl _) _).grown hg3 (by simp) (fun j e=>by cases e;exact Nat.le_refl _)
      have hbd2:=hbd.below hx2
      have kf2:=kE hx2 kf
      have hall2:=hall.trans (hx2.mono (by omega))
      have l01:=ld_row kf2 Tryz.underlying28 rfl info_fld
      have l02:=ld_row k2 Tryz.underlying48 rfl info_cal
      clear kn v0 hbd kf hx2 hg3 hcal
      go_wp2_with (first
       |(go_at_call 91;refine(pl _ hall2).mono ?_;rintro e w4 ⟨rfl,hx⟩;have kf2:=kE hx kf2;have hbd2:=hbd2.below hx;have hall2:=hall2.trans (hx.mono hall2.size);clear hx pl l01 l02)
       |(go_at_call 118;refine(writeS w1.heap.size w1.heap.size QQ (ul++[10]) _ hbd2 (by omega)).mono ?_;rintro e w5 ⟨rfl,hbd3,hx3,hk3⟩;have kf2:=(hx3.block w.heap.size (by omega)).trans kf2;have hall2:=hall2.trans (hx3.mono (by omega));clear hx3 hk3))
      go_roundw
      case rel=>exact⟨j+1,by omega,by go_num,by rw[HM2.out];exact hbd3,kf2,hall2⟩
      case measure=>first|(simp[intOf];done)|(simp[intOf];omega)
     ·obtain rfl:j=cs.length:=by omega
      rw[List.take_length,<-HN2.out]at hbd
      go_wp2
      go_roundw
      case rel=>exact⟨k+1,by omega,by go_num,hbd,kf,hall⟩
      case measure=>first|(simp[intOf];done)|(simp[intOf];omega))
  ·obtain rfl:k=l.length:=by omega
   rw[hres.out]at hbd
   go_wp2_with fail
   refine(strB w1.heap.size w1.heap.size R _ hbd).mono ?_
   rintro e w5 ⟨rfl,hx⟩
   have hall5:=hall.trans (hx.mono (by omega))
   go_wp2
   go_ret
   exact⟨rfl,hall5⟩
theorem PrintDeeds_a (A:Option Addr)(c:Nat)(l:List (Pl.Ded×Option Addr×Nat))(w:World)(hEn:Env w)(hf:FldS w w.heap.size A1 A2 A3 A4 f)(hm:Small f)(hc:Caps c1 c2 c3 c4 f)(hD:DedS w w.heap.size A l)(hlc:l.length<=c)(hk: ∀x∈l,∀c∈x.1.calls,c.kind<=255)(hn: ∀x∈l,x.1.name.size<=100000)(hl:l.length<=100000):
  Calls Tryz.prog 61 #[.agg (fq A1 A2 A3 A4 c1 c2 c3 c4 f),.slice A l.length c] w fun e w'=>e=.returned (.string (Pl.deedsB f (l.map (·.1))))∧Below w.heap.size w w':=by
 by_cases hE:Pl.deedsE f (l.map (·.1))=0
 ·have:=PrintDeeds_ok A1 A2 A3 A4 c1 c2 c3 c4 f A c l w hEn hf hm hc hD hlc hk hE
  unfold Pl.deedsB Pl.mkB
  rw[if_pos hE]
  exact this
 ·unfold Pl.deedsB
  rw[if_neg hE]
  have kf:=heap_alloc_new w (.cells (fq A1 A2 A3 A4 c1 c2 c3 c4 f) 28)
  have hb0:Below w.heap.size w (w.alloc (.cells (fq A1 A2 A3 A4 c1 c2 c3 c4 f) 28)):=(Below.refl _ w).alloc (Nat.le_refl _) _
  have l01:=ld_row kf Tryz.underlying28 rfl info_fld
  have pk:=CheckDeeds_a A1 A2 A3 A4 c1 c2 c3 c4 f A c l _ (hf.up hb0) hm hc (⟨hD.row.up hb0,fun x hx=>(hD.own x hx).up hb0⟩:DedS _ _ A l) hlc hk hn hl
  obtain⟨E,he⟩: ∃E,Pl.deedsE f (l.map (·.1))=E:=⟨_,rfl⟩
  rw[he]at pk hE
  have hne:(E !=0)=true:=by simpa using hE
  clear he hE
  go_enter Tryz.func61,Tryz.ntmps61
  go_wp2_with (go_at_call 48;refine pk.mono ?_;rintro e w1 ⟨rfl,hx⟩;have hall:Below w.heap.size w w1:=hb0.trans (hx.mono hb0.size))
  go_ret
  exact⟨rfl,hall⟩
end Go.Proofs.YtgbpekeoegfjpaaGreatDoor
set_option maxRecDepth 100000
namespace Go.Proofs.YtgbpekeoegfjpaaGreatDoor
open Go.RowKit
def Pl.manyD (d:Pl.Ded):Bool:=decide (30<d.calls.length)||decide (100<d.name.size)
def Pl.many (l:List Pl.Ded):Bool:=decide (70<l.length)||l.any Pl.manyD
set_option maxHeartbeats 2000000 in
theorem many_a (A:Option Addr)(c:Nat)(l:List (Pl.Ded×Option Addr×Nat))(b:Bool)(w:World)(hD:Dds w w.heap.size A l)(hb:Hid (Pl.many (l.map (·.1))=b)):
  Calls Tryz.prog 57 #[.slice A l.length c] w fun e w'=>e=.returned (.bool b)∧w=w':=by
 by_cases h70:70<l.length
 ·have hr:b=true:=by rw[<-hb.out];unfold Pl.many;simp[h70]
  subst hr
  have n1:(70:Int)<(l.length:Int):=by omega
  go_enter Tryz.func57,Tryz.ntmps57
  go_wp2
  go_ret
  exact⟨rfl,rfl⟩
 ·have n1: ¬(70:Int)<(l.length:Int):=by omega
  have hr:Hid ((l.map (·.1)).any Pl.manyD=b):=Lib.hid (by rw[<-hb.out];unfold Pl.many;simp[h70])
  clear hb
  go_enter Tryz.func57,Tryz.ntmps57
  go_wp2
  go_loop [3] (fun i=> ∃(k:Nat),k<=l.length∧i=.int .i64 k∧Hid (∀x∈l.take k,Pl.manyD x.1=false)) (fun i=>l.length-(intOf i).toNat)
  case atStart=>exact⟨0,by omega,rfl,Lib.hid (by simp)⟩
  case round=>
   obtain⟨k,hk,rfl,hg⟩:=hrel
   by_cases hlt:k<l.length
   ·obtain⟨g,o,hA,hgB,hcl⟩:=Seg.at_ hD hlt
    have q3:=hcl 3 (slv l[k].2 l[k].1.calls.length) rfl
    have q0:=hcl 0 (.string l[k].1.name) rfl
    rw[Nat.add_zero]at q0
    clear hcl
    subst hA
    have HX:=Lib.hid (show ∀d,Pl.manyD l[k].1=d->d=true->(l.map (·.1)).any Pl.manyD=true from fun d h h2=>List.any_eq_true.2 ⟨_,List.mem_map_of_mem (List.getElem_mem hlt),by rw[h,h2]⟩)
    have HY:=Lib.hid (show Pl.manyD l[k].1=false-> ∀x∈l.take (k+1),Pl.manyD x.1=false from fun h x hx=>by
     rw[List.take_add_one,List.getElem?_eq_getElem hlt]at hx
     rcases List.mem_append.1 hx with hx|hx
     ·exact hg.out x hx
     ·simp at hx;rw[hx];exact h)
    obtain⟨x,hx⟩: ∃x,l[k]=x:=⟨_,rfl⟩
    rw[hx]at q3 q0 HX HY
    clear hx
    unfold slv at q3
    have e1:(0:Int)<=(k:Int):=by omega
    have e2:(k:Int)<(l.length:Int):=by omega
    by_cases h30:30<x.1.calls.length
    ·have m1:(30:Int)<(x.1.calls.length:Int):=by omega
     have HZ:=Lib.hid (HX.out true (by unfold Pl.manyD;simp[h30]) rfl)
     clear h30
     go_wp2
     go_ret
     exact⟨ret_bool (by rw[<-hr.out,HZ.out]),rfl⟩
    ·have m1: ¬(30:Int)<(x.1.calls.length:Int):=by omega
     by_cases h100:100<x.1.name.size
     ·have m2:(100:Int)<(x.1.name.size:Int):=by omega
      have HZ:=Lib.hid (HX.out true (by unfold Pl.manyD;simp[h100]) rfl)
      clear h30 h100
      go_wp2
      go_ret
      exact⟨ret_bool (by rw[<-hr.out,HZ.out]),rfl⟩
     ·have m2: ¬(100:Int)<(x.1.name.size:Int):=by omega
      have HZ:=Lib.hid (HY.out (by unfold Pl.manyD;simp[h30,h100]))
      clear h30 h100
      go_wp2
      go_round
      case rel=>exact⟨k+1,by omega,by go_num,HZ⟩
      case measure=>first|(simp[intOf];done)|(simp[intOf];omega)
   ·obtain rfl:k=l.length:=by omega
    have HZ:Hid (b=false):=Lib.hid (by
     rw[<-hr.out,List.any_eq_false]
     intro d hd
     obtain⟨x,hx,rfl⟩:=List.mem_map.1 hd
     have:=hg.out x (by simpa using hx)
     simp[this])
    go_wp2
    go_ret
    exact⟨ret_bool HZ.out.symm,rfl⟩
end Go.Proofs.YtgbpekeoegfjpaaGreatDoor
